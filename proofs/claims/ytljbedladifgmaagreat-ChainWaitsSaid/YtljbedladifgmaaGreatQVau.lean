/-
  The contract: vaults, places of locks. No conditions.
-/
import Derived.Test.YtljbedladifgmaaGreatQWide
import Derived.Test.YtljbedladifgmaaGreatQBytes
import Derived.Test.YtljbedladifgmaaGreatQFv
import Derived.Test.YtljbedladifgmaaGreatQSs
namespace Go.Proofs.YtljbedladifgmaaGreat.Tx
open Go Go.RowKit Eng
set_option linter.unusedVariables false
set_option maxRecDepth 100000
set_option linter.unusedSimpArgs false
open Wide
set_option maxHeartbeats 2000000
/-- A transaction's parts. -/
structure Tx where
  fr : Int
  no : Int
  ki : Int
  at_ : Int
  am : Int
  us : Int
  rt : List UInt8
  ro : Int
  se : Int
  re : Int
  to : Int
  id : List UInt8
  va : Int
  ex : Int
  fee : Int
  sg : List UInt8
def invc (us : Int) (rt : List UInt8) (ro se re to : Int) (id : List UInt8) : List Value := [.int .i64 us, str rt, .int .i64 ro, .int .i64 se, .int .i64 re, .int .i64 to, str id]
def varc (va ex : Int) : List Value := wv va ++ [.int .i64 ex]
def Tx.cells (t : Tx) : List Value := [.int .i64 t.fr, .int .i64 t.no, .int .i64 t.ki, .int .i64 t.at_] ++ wv t.am ++ invc t.us t.rt t.ro t.se t.re t.to t.id ++ varc t.va t.ex ++ wv t.fee ++ [str t.sg]
def inB (n a b : Int) : Bool := decide (a ≤ n) && decide (n ≤ b)
def invE (us : Int) (rt : List UInt8) (ro se re to : Int) (id : List UInt8) : Int :=
  if inB us 0 1 = true ∧ inB ro 2 3 = true ∧ inB se 0 1 = true ∧ inB re 0 1 = true ∧ inB to 0 7 = true ∧ rt.length = 8 ∧ inB (id.length : Int) 1 16 = true then 0 else 39
def sndE (va ex : Int) : Int := if va ≠ 0 ∧ inB ex 0 1099511627776 = true then 0 else 36
def rtE (t : Tx) : Int := if t.am = 0 then 36 else if t.ki = 1 ∧ inB t.to 0 7 = false then 39 else if t.ki = 2 ∧ inB t.ro 2 3 = false then 39 else 0
/-- May it be? -/
def chk (t : Tx) : Int :=
  if inB t.ki 1 6 = false then 12
  else if inB t.fr 0 7 = false ∨ inB t.no 0 1099511627776 = false ∨ inB t.at_ 0 1 = false then 4
  else if t.ki < 4 then rtE t
  else if invE t.us t.rt t.ro t.se t.re t.to t.id ≠ 0 then invE t.us t.rt t.ro t.se t.re t.to t.id
  else if sndE t.va t.ex ≠ 0 then sndE t.va t.ex
  else if 1024 < t.sg.length then 5
  else 0
/-- What a transaction that comes in is. -/
structure Tx.In (t : Tx) : Prop where
  am : Wd t.am
  va : Wd t.va
  rt : t.rt.length ≤ maxLen
  id : t.id.length ≤ maxLen
  sg : t.sg.length ≤ maxLen
theorem chk_fr {t : Tx} (h : chk t = 0) : 0 ≤ t.fr ∧ t.fr ≤ 7 := by
  unfold chk at h
  split at h
  · omega
  · split at h
    · omega
    · rename_i h1 h2
      simp only [not_or, Bool.not_eq_false] at h2
      have := h2.1
      unfold inB at this
      simpa using this
theorem in_ (n a b : Int) (w : World) : CSpec Tryz.prog 97 [.int .i64 n, .int .i64 a, .int .i64 b] [] w (Gives (.bool (inB n a b))) := by
  refine spec_of Tryz.func97 rfl Tryz.ntmps97 rfl (l0 := [(0, .int .i64 n), (1, .int .i64 a), (2, .int .i64 b)]) rfl ?_
  intro fp
  repeat' first
    | refine J.one ?_
    | refine J.loudS ?_
    | (refine J.loudQ ?_; intro _ _)
    | (refine J.loudB ?_; intro _)
    | (with_reducible apply J.list)
    | ((with_reducible apply J.gsplit); exact rfl; exact rfl)
    | ((with_reducible first | apply J.cond | apply JC.cond); exact rfl)
    | (intro h; exfalso; (first | (simp at h; done) | (simp at h; omega) | omega))
    | (intro h; (try simp only [decide_eq_true_eq, decide_eq_false_iff_not, beq_iff_eq, beq_eq_false_iff_ne, Bool.not_eq_true', Bool.not_eq_false', bne_iff_ne, bne_eq_false_iff_eq, ne_eq, ge_iff_le, gt_iff_lt] at h))
    | (with_reducible apply J.gave')
    | ((with_reducible apply J.kept'); rotate_left; (repeat (first | (with_reducible exact Outs.nil) | ((with_reducible apply Outs.cons); (repeat (first | with_reducible exact Out.here | with_reducible apply Out.there))))))
  all_goals ((first | (simp [retv, inB, *]; done) | (simp [retv, inB]; omega) | (trace_state; fail)))
theorem dealCheck (us : Int) (rt : List UInt8) (ro se re to : Int) (id : List UInt8) (w : World) : CSpec Tryz.prog 58 [.agg (invc us rt ro se re to id).toArray] [] w (Gives (.int .i64 (invE us rt ro se re to id))) := by
  refine spec_of Tryz.func58 rfl Tryz.ntmps58 rfl (l0 := [(0, .agg (invc us rt ro se re to id).toArray)]) rfl ?_
  intro fp
  repeat' first
    | (refine J.qv ?_; (with_reducible apply exq); focus (first
      | ((with_reducible apply Qv.lenS8); exact rfl)))
    | ((with_reducible apply J.givesW (in_ _ _ _)); exact rfl; exact rfl)
    | refine J.one ?_
    | refine J.loudS ?_
    | (refine J.loudQ ?_; intro _ _)
    | (refine J.loudB ?_; intro _)
    | (with_reducible apply J.list)
    | ((with_reducible apply J.gsplit); exact rfl; exact rfl)
    | ((with_reducible first | apply J.cond | apply JC.cond); exact rfl)
    | (intro h; exfalso; (first | (simp at h; done) | omega))
    | (intro h; (try simp only [decide_eq_true_eq, decide_eq_false_iff_not, beq_iff_eq, beq_eq_false_iff_ne, Bool.not_eq_true', Bool.not_eq_false', bne_iff_ne, bne_eq_false_iff_eq, ne_eq, ge_iff_le, gt_iff_lt] at h))
    | (with_reducible apply J.gave')
    | ((with_reducible apply J.kept'); rotate_left; (repeat (first | (with_reducible exact Outs.nil) | ((with_reducible apply Outs.cons); (repeat (first | with_reducible exact Out.here | with_reducible apply Out.there))))))
  all_goals ((first | rfl | (simp_all [retv, invE]; done) | (simp_all [retv, invE]; omega) | (trace_state; fail)))
theorem sound (va ex : Int) (hv : Wd va) (w : World) : CSpec Tryz.prog 75 [.agg (varc va ex).toArray] [] w (Gives (.int .i64 (sndE va ex))) := by
  refine spec_of Tryz.func75 rfl Tryz.ntmps75 rfl (l0 := [(0, .agg (varc va ex).toArray)]) rfl ?_
  intro fp
  repeat' first
    | (refine J.qv ?_; (with_reducible apply exq); focus (first
      | ((with_reducible apply Qv.buildW); exact rfl; exact rfl; (first | with_reducible assumption | (unfold Wo; omega) | (simp only [Wd, Wo] at *; omega)))
      | ((with_reducible apply Qv.buildW0); exact rfl; exact rfl)
      | ((with_reducible apply Qv.eqlA); exact rfl; exact rfl; (kernel_rfl); (refine weq _ _ (And.intro ?_ ?_) <;> (first | with_reducible assumption | exact ht.am | exact ht.va | (unfold Wd; omega))))))
    | ((with_reducible apply J.givesW (in_ _ _ _)); exact rfl; exact rfl)
    | refine J.one ?_
    | refine J.loudS ?_
    | (refine J.loudQ ?_; intro _ _)
    | (refine J.loudB ?_; intro _)
    | (with_reducible apply J.list)
    | ((with_reducible apply J.gsplit); exact rfl; exact rfl)
    | ((with_reducible first | apply J.cond | apply JC.cond); exact rfl)
    | (intro h; exfalso; (first | (simp at h; done) | omega))
    | (intro h; (try simp only [decide_eq_true_eq, decide_eq_false_iff_not, beq_iff_eq, beq_eq_false_iff_ne, Bool.not_eq_true', Bool.not_eq_false', bne_iff_ne, bne_eq_false_iff_eq, ne_eq, ge_iff_le, gt_iff_lt] at h))
    | (with_reducible apply J.gave')
    | ((with_reducible apply J.kept'); rotate_left; (repeat (first | (with_reducible exact Outs.nil) | ((with_reducible apply Outs.cons); (repeat (first | with_reducible exact Out.here | with_reducible apply Out.there))))))
  all_goals ((first | rfl | (simp_all [retv, sndE]; done) | (trace_state; fail)))
theorem route (t : Tx) (ht : t.In) (w : World) : CSpec Tryz.prog 74 [.agg t.cells.toArray] [] w (Gives (.int .i64 (rtE t))) := by
  refine spec_of Tryz.func74 rfl Tryz.ntmps74 rfl (l0 := [(0, .agg t.cells.toArray)]) rfl ?_
  intro fp
  repeat' first
    | (refine J.qv ?_; (with_reducible apply exq); focus (first
      | ((with_reducible apply Qv.buildW); exact rfl; exact rfl; (first | with_reducible assumption | (unfold Wo; omega) | (simp only [Wd, Wo] at *; omega)))
      | ((with_reducible apply Qv.buildW0); exact rfl; exact rfl)
      | ((with_reducible apply Qv.eqlA); exact rfl; exact rfl; (kernel_rfl); (refine weq _ _ (And.intro ?_ ?_) <;> (first | with_reducible assumption | exact ht.am | exact ht.va | (unfold Wd; omega))))))
    | refine J.one ?_
    | refine J.loudS ?_
    | (refine J.loudQ ?_; intro _ _)
    | (refine J.loudB ?_; intro _)
    | (with_reducible apply J.list)
    | ((with_reducible apply J.gsplit); exact rfl; exact rfl)
    | ((with_reducible first | apply J.cond | apply JC.cond); exact rfl)
    | (intro h; exfalso; (first | (simp at h; done) | omega))
    | (intro h; (try simp only [decide_eq_true_eq, decide_eq_false_iff_not, beq_iff_eq, beq_eq_false_iff_ne, Bool.not_eq_true', Bool.not_eq_false', bne_iff_ne, bne_eq_false_iff_eq, ne_eq, ge_iff_le, gt_iff_lt] at h))
    | (with_reducible apply J.gave')
    | ((with_reducible apply J.kept'); rotate_left; (repeat (first | (with_reducible exact Outs.nil) | ((with_reducible apply Outs.cons); (repeat (first | with_reducible exact Out.here | with_reducible apply Out.there))))))
  all_goals ((first | rfl | (simp_all [retv, rtE, inB]; done) | (simp_all [retv, rtE, inB]; omega) | (trace_state; fail)))
theorem check (t : Tx) (ht : t.In) (w : World) : CSpec Tryz.prog 34 [.agg t.cells.toArray] [] w (Gives (.int .i64 (chk t))) := by
  refine spec_of Tryz.func34 rfl Tryz.ntmps34 rfl (l0 := [(0, .agg t.cells.toArray)]) rfl ?_
  intro fp
  repeat' first
    | (refine J.qv ?_; (with_reducible apply exq); focus (first
      | ((with_reducible apply Qv.buildW); exact rfl; exact rfl; (first | with_reducible assumption | (unfold Wo; omega) | (simp only [Wd, Wo] at *; omega)))
      | ((with_reducible apply Qv.buildW0); exact rfl; exact rfl)
      | ((with_reducible apply Qv.eqlA); exact rfl; exact rfl; (kernel_rfl); (refine weq _ _ (And.intro ?_ ?_) <;> (first | with_reducible assumption | exact ht.am | exact ht.va | (unfold Wd; omega))))
      | ((with_reducible apply Qv.lenS8); exact rfl)))
    | ((with_reducible apply J.givesP (route _)); exact rfl; exact rfl; (exact ht))
    | ((with_reducible apply J.givesW (dealCheck _ _ _ _ _ _ _)); exact rfl; exact rfl)
    | ((with_reducible apply J.givesP (sound _ _)); exact rfl; exact rfl; (exact ht.va))
    | refine J.one ?_
    | refine J.loudS ?_
    | (refine J.loudQ ?_; intro _ _)
    | (refine J.loudB ?_; intro _)
    | (with_reducible apply J.list)
    | ((with_reducible apply J.gsplit); exact rfl; exact rfl)
    | ((with_reducible first | apply J.cond | apply JC.cond); exact rfl)
    | (intro h; exfalso; (first | (simp at h; done) | omega))
    | (intro h; (try simp only [decide_eq_true_eq, decide_eq_false_iff_not, beq_iff_eq, beq_eq_false_iff_ne, Bool.not_eq_true', Bool.not_eq_false', bne_iff_ne, bne_eq_false_iff_eq, ne_eq, ge_iff_le, gt_iff_lt] at h))
    | (with_reducible apply J.gave')
    | ((with_reducible apply J.kept'); rotate_left; (repeat (first | (with_reducible exact Outs.nil) | ((with_reducible apply Outs.cons); (repeat (first | with_reducible exact Out.here | with_reducible apply Out.there))))))
  all_goals
    (simp only [retv, Value.int.injEq, true_and]
     unfold chk inB
     simp only [Bool.and_eq_false_iff, decide_eq_false_iff_not]
     first
     | (rw [if_pos (by omega)]; done)
     | (rw [if_neg (by omega), if_pos (by omega)]; done)
     | (rw [if_neg (by omega), if_neg (by omega), if_pos (by omega)]; done)
     | (rw [if_neg (by omega), if_neg (by omega), if_neg (by omega), if_pos (by assumption)]; done)
     | (rw [if_neg (by omega), if_neg (by omega), if_neg (by omega), if_neg (by simp_all), if_pos (by assumption)]; done)
     | (rw [if_neg (by omega), if_neg (by omega), if_neg (by omega), if_neg (by simp_all), if_neg (by simp_all), if_pos (by omega)]; done)
     | (rw [if_neg (by omega), if_neg (by omega), if_neg (by omega), if_neg (by simp_all), if_neg (by simp_all), if_neg (by omega)]; done)
     | (trace_state; fail))
end Go.Proofs.YtljbedladifgmaaGreat.Tx
namespace Go.Proofs.YtljbedladifgmaaGreat.Hsum
open Go Go.RowKit Eng
set_option linter.unusedVariables false
set_option maxRecDepth 100000
set_option linter.unusedSimpArgs false
open Sha Iter Hash Bytes
set_option maxHeartbeats 1000000
theorem cat_ (ao : Option Addr) (n cap : Nat) (L : List (List UInt8)) (w : World) (hw : RdS w ao L ∧ n = L.length ∧ L.flatten.length ≤ 1099511627776 ∧ L.length ≤ 1099511627776) : CSpec Tryz.prog 100 [.slice ao n cap] [] w (Fresh 5 1 L.flatten.length (bcs L.flatten) []) := by
  obtain ⟨hr, hn, hf, hm⟩ := hw
  refine spec_own0 Tryz.func100 rfl Tryz.ntmps100 rfl (l0 := [(0, .slice ao n cap)]) rfl ?_
  repeat' first
    | ((with_reducible apply J.freshR (concat_ _ _ _ L)); exact rfl; exact rfl; (focus (exact RH.and (RH.sold hr) (RH.of ⟨hn, hf, hm⟩))); intro _ _)
    | refine J.one ?_
    | refine J.loudS ?_
    | (refine J.loudQ ?_; intro _ _)
    | (refine J.loudB ?_; intro _)
    | (with_reducible apply J.list)
    | ((with_reducible apply J.gsplit); exact rfl; exact rfl)
    | ((with_reducible first | apply J.cond | apply JC.cond); exact rfl)
    | (intro h; exfalso; (first | (simp at h; done) | (simp at h; omega)))
    | (intro h; (try simp only [decide_eq_true_eq, decide_eq_false_iff_not, beq_iff_eq, beq_eq_false_iff_ne, Bool.not_eq_true', Bool.not_eq_false', bne_iff_ne, bne_eq_false_iff_eq, ne_eq, ge_iff_le, gt_iff_lt] at h))
    | (with_reducible apply J.gave')
    | ((with_reducible apply J.kept'); rotate_left; (repeat (first | (with_reducible exact Outs.nil) | ((with_reducible apply Outs.cons); (repeat (first | with_reducible exact Out.here | with_reducible apply Out.there))))))
  all_goals (((with_reducible apply J.freshRow); (repeat (first | with_reducible exact Out.here | with_reducible apply Out.there)); exact rfl; exact rfl; exact rfl))
def IterC (v : Value) (k : Int) : Ending → List Asrt → Prop := fun e H => ∃ Bs Bn, e = .returned (.func (.func 150) #[] [.pointer (some ⟨Bs, 0, none⟩), .pointer (some ⟨Bn, 0, none⟩)].toArray) ∧ H = [blk Bs [v] 93, blk Bn [.int .i64 k] 3]
section
variable {c : Cx} {l : TL} {H : List Asrt} {Q : Exit → Act → World → Prop} {X : Act → World → Prop} {ty : TypeId} {pos : String} {af : Array Edge} {d : Nat}
theorem J.iterC {P : Program} {f : Nat} {v : Value} {k : Int} [i : Eng.Enters P f] {xs : List Operand} {ts : Array TypeId} {vs : List Value} {p : Prop} (hS : ∀ w, p → CSpec P f vs [] w (IterC v k)) (hd : Nat.blt d c.n = true) (hx : evs l xs = some vs) (hp : p)
    (K : ∀ Bs Bn, J c ((d, .func (.func 150) #[] [.pointer (some ⟨Bs, 0, none⟩), .pointer (some ⟨Bn, 0, none⟩)].toArray) :: l) (blk Bs [v] 93 :: blk Bn [.int .i64 k] 3 :: H) X) : J c l H (OW P Q ⟨some d, .call ⟨.value (.func f), xs.toArray, ts⟩, ty, pos, af, none⟩ X) :=
  J.call hd hx .nil (fun w _ => hS w hp) (fun v H3 ⟨Bs, Bn, h1, h2⟩ => by cases h1; subst h2; exact K Bs Bn) (fun ch H3 ⟨Bs, Bn, h1, _⟩ => by cases h1) (fun H3 ⟨Bs, Bn, h1, _⟩ => by cases h1)
end
theorem chunkf (ao : Option Addr) (n cap : Nat) (k : Int) (w : World) (hw : 1 ≤ k) : CSpec Tryz.prog 126 [.slice ao n cap, .int .i64 k] [] w (IterC (.slice ao n cap) k) := by
  refine spec_own0 Tryz.func126 rfl Tryz.ntmps126 rfl (l0 := [(0, .slice ao n cap), (1, .int .i64 k)]) rfl ?_
  repeat' first
    | refine J.one ?_
    | refine J.loudS ?_
    | (refine J.loudQ ?_; intro _ _)
    | (refine J.loudB ?_; intro _)
    | (with_reducible apply J.list)
    | ((with_reducible apply J.gsplit); exact rfl; exact rfl)
    | ((with_reducible first | apply J.cond | apply JC.cond); exact rfl)
    | (intro h; exfalso; (first | (simp at h; done) | (simp at h; omega) | omega))
    | (intro h; (try simp only [decide_eq_true_eq, decide_eq_false_iff_not, beq_iff_eq, beq_eq_false_iff_ne, Bool.not_eq_true', Bool.not_eq_false', bne_iff_ne, bne_eq_false_iff_eq, ne_eq, ge_iff_le, gt_iff_lt] at h))
    | (with_reducible apply J.gave')
    | ((with_reducible apply J.kept'); rotate_left; (repeat (first | (with_reducible exact Outs.nil) | ((with_reducible apply Outs.cons); (repeat (first | with_reducible exact Out.here | with_reducible apply Out.there))))))
  all_goals
    first
    | (rename_i Bs Bn
       exact J.post ⟨Bs, Bn, rfl, rfl⟩ (.cons (.there .here) (.cons .here .nil)))
    | (trace_state; fail)
theorem J.rowCap {c : Cx} {l : TL} {H : List Asrt} {G : Act → World → Prop} {m E sz : Nat} {C : List Value} {v : Value} (hm : In (Eng.row v E sz m C) H) (K : (∀ ao n cap, v = .slice ao n cap → cap ≤ maxLen) → J c l H G) : J c l H G := J.mk fun a w s => by
  refine (K fun ao n cap e => ?_).out a w s
  subst e
  exact (s.2.2.rd_row hm).2.2.2.2
theorem sum_ (ao : Option Addr) (n cap : Nat) (l : List UInt8) (w : World) (hw : Rd w ao (bcs l) ∧ n = l.length ∧ l.length ≤ 1099511627776) : CSpec Tryz.prog 101 [.slice ao n cap] [] w (Fresh 5 1 32 (bcs (sha l)) []) := by
  obtain ⟨hr, rfl, hl⟩ := hw
  refine spec_ownM Tryz.func101 rfl Tryz.ntmps101 rfl (l0 := [(0, .slice ao l.length cap)]) rfl ?_
  refine J.noPanic ?_
  repeat' first
    | ((with_reducible apply J.givesW (begin_)); exact rfl; exact rfl)
    | ((with_reducible apply J.givesW (keys_)); exact rfl; exact rfl)
    | ((with_reducible apply J.freshR (pad_ _ _ _ l)); exact rfl; exact rfl; (focus ((exact RH.and (RH.old hr) (RH.of ⟨rfl, hl⟩)))); intro _ _)
    | ((with_reducible apply J.iterC (chunkf _ _ _ 64)); exact rfl; exact rfl; decide; intro _ _)
    | refine J.one ?_
    | refine J.loudS ?_
    | (refine J.loudQ ?_; intro _ _)
    | (refine J.loudB ?_; intro _)
    | (with_reducible apply J.list)
    | ((with_reducible apply JC.draw (id := 9) [0, 0, 2, 6, 0, 30, 63, 127] (.q 0 (.p 1 (.p 2 (.q 3 (.p 4 (.p 5 (.x 6 (.x 7 .nil .none) .none))))))) (by kernel_rfl) ?_ (by kernel_rfl) ?_); (repeat (with_reducible first | exact PanicFree.body | exact PanicFree.np | exact PanicFree.lvS | apply PanicFree.then_ | apply PanicFree.blk)))
    | ((with_reducible apply JC.draw (id := 14) [0, 1, 3, 0, 8, 24, 63, 127, 255] (.p 0 (.p 1 (.q 2 (.p 3 (.p 4 (.q 5 (.p 6 (.p 7 (.x 8 .nil .none))))))))) (by kernel_rfl) ?_ (by kernel_rfl) ?_); (repeat (with_reducible first | exact PanicFree.body | exact PanicFree.np | exact PanicFree.lvS | apply PanicFree.then_ | apply PanicFree.blk)))
    | ((with_reducible apply J.pl2); exact rfl; (first | exact Gd.none | ((with_reducible apply Gd.on); exact rfl; exact rfl)); (repeat (first | (with_reducible exact PendF.nil) | ((with_reducible apply PendF.keep); exact rfl) | ((with_reducible apply PendF.gone); exact rfl))))
    | ((with_reducible apply J.pl2_off); exact rfl; ((with_reducible apply Gd.off); exact rfl; exact rfl; exact rfl); exact rfl; (repeat (first | (with_reducible exact PendF.nil) | ((with_reducible apply PendF.keep); exact rfl) | ((with_reducible apply PendF.gone); exact rfl))))
    | ((with_reducible apply J.pl2_off_none); exact rfl; ((with_reducible apply Gd.off); exact rfl; exact rfl; exact rfl); (repeat (first | (with_reducible exact PendF.nil) | ((with_reducible apply PendF.keep); exact rfl) | ((with_reducible apply PendF.gone); exact rfl))))
    | ((with_reducible first | apply J.psplit0 | apply J.psplit1 | apply J.psplit2); exact rfl; exact rfl; exact rfl)
    | (with_reducible exact J.pl_none)
    | ((with_reducible apply J.gsplit); exact rfl; exact rfl)
    | ((with_reducible first | apply J.cond | apply JC.cond); exact rfl)
    | (intro h; exfalso; fail)
    | (intro h; (try simp only [decide_eq_true_eq, decide_eq_false_iff_not, beq_iff_eq, beq_eq_false_iff_ne, Bool.not_eq_true', Bool.not_eq_false', bne_iff_ne, bne_eq_false_iff_eq, ne_eq, ge_iff_le, gt_iff_lt] at h))
    | (with_reducible apply J.gave')
    | ((with_reducible apply J.kept'); rotate_left; (repeat (first | (with_reducible exact Outs.nil) | ((with_reducible apply Outs.cons); (repeat (first | with_reducible exact Out.here | with_reducible apply Out.there))))))
  rename_i b3 b4 q hq Bs Bn
  apply J.rowCap (v := .slice q.1 (pad l).length q.2) (by (repeat (first | with_reducible exact In.here | with_reducible apply In.there)))
  intro hcm0
  have hcm := hcm0 _ _ _ rfl
  obtain ⟨NB, hNB⟩ : ∃ NB, (pad l).length = NB * 64 := ⟨(pad l).length / 64, by have := pad_mod l; omega⟩
  have e0 : st8 st0 = st8 (sums (pad l) (NB - NB)) := by rw [Nat.sub_self]; rfl
  have hs : sha l = outS (sums (pad l) NB) 8 := by unfold sha; rw [show (pad l).length / 64 = NB by omega]
  rw [hs, e0]
  apply J.rangeG (ps := [19]) (chunk_byte Bs Bn NB 64 (pad l).length q.2 q.1 (by decide) hNB hq hcm) (fun _ (_ : Unit) => True) (fun k _ => [blk b3 (st8 (sums (pad l) (NB - k))) 181, blk b4 (tab (fun j => u32 (kw j)) 64) 165, row (.slice q.1 (pad l).length q.2) 5 1 (pad l).length (bcs (pad l)), blk Bs [.slice q.1 (pad l).length q.2] 93, blk Bn [.int .i64 64] 3]) [falseA] (fun k => [(5, .slice (q.1.map (·.add ((NB - (k + 1)) * 64))) 64 64), (3, .pointer (some ⟨b3, 0, none⟩)), (4, .pointer (some ⟨b4, 0, none⟩))]) ()
  case hg => rfl
  case hps => rfl
  case hlen => exact fun k => rfl
  case hF => exact fun k _ W _ s => ⟨s.cell (.tail _ (.tail _ (.tail _ (.head _)))) rfl, s.cell (.tail _ (.tail _ (.tail _ (.tail _ (.head _))))) rfl⟩
  case hI => trivial
  case ho => ((try dsimp only); (repeat (first | (with_reducible exact Outs.nil) | ((with_reducible apply Outs.cons); (repeat (first | with_reducible exact Out.here | with_reducible apply Out.there))))))
  case hm => kernel_rfl
  case hka => rfl
  case hkb => rfl
  case hassign =>
    intro k A
    try dsimp only [putSl]
    repeat' first
      | ((with_reducible apply J.givesW (begin_)); exact rfl; exact rfl)
      | ((with_reducible apply J.givesW (keys_)); exact rfl; exact rfl)
      | ((with_reducible apply J.freshR (pad_ _ _ _ l)); exact rfl; exact rfl; (focus ((exact RH.and (RH.old hr) (RH.of ⟨rfl, hl⟩)))); intro _ _)
      | ((with_reducible apply J.iterC (chunkf _ _ _ 64)); exact rfl; exact rfl; decide; intro _ _)
      | refine J.one ?_
      | refine J.loudS ?_
      | (refine J.loudQ ?_; intro _ _)
      | (refine J.loudB ?_; intro _)
      | (with_reducible apply J.list)
      | ((with_reducible apply JC.draw (id := 9) [0, 0, 2, 6, 0, 30, 63, 127] (.q 0 (.p 1 (.p 2 (.q 3 (.p 4 (.p 5 (.x 6 (.x 7 .nil .none) .none))))))) (by kernel_rfl) ?_ (by kernel_rfl) ?_); (repeat (with_reducible first | exact PanicFree.body | exact PanicFree.np | exact PanicFree.lvS | apply PanicFree.then_ | apply PanicFree.blk)))
      | ((with_reducible apply JC.draw (id := 14) [0, 1, 3, 0, 8, 24, 63, 127, 255] (.p 0 (.p 1 (.q 2 (.p 3 (.p 4 (.q 5 (.p 6 (.p 7 (.x 8 .nil .none))))))))) (by kernel_rfl) ?_ (by kernel_rfl) ?_); (repeat (with_reducible first | exact PanicFree.body | exact PanicFree.np | exact PanicFree.lvS | apply PanicFree.then_ | apply PanicFree.blk)))
      | ((with_reducible apply J.pl2); exact rfl; (first | exact Gd.none | ((with_reducible apply Gd.on); exact rfl; exact rfl)); (repeat (first | (with_reducible exact PendF.nil) | ((with_reducible apply PendF.keep); exact rfl) | ((with_reducible apply PendF.gone); exact rfl))))
      | ((with_reducible apply J.pl2_off); exact rfl; ((with_reducible apply Gd.off); exact rfl; exact rfl; exact rfl); exact rfl; (repeat (first | (with_reducible exact PendF.nil) | ((with_reducible apply PendF.keep); exact rfl) | ((with_reducible apply PendF.gone); exact rfl))))
      | ((with_reducible apply J.pl2_off_none); exact rfl; ((with_reducible apply Gd.off); exact rfl; exact rfl; exact rfl); (repeat (first | (with_reducible exact PendF.nil) | ((with_reducible apply PendF.keep); exact rfl) | ((with_reducible apply PendF.gone); exact rfl))))
      | ((with_reducible first | apply J.psplit0 | apply J.psplit1 | apply J.psplit2); exact rfl; exact rfl; exact rfl)
      | (with_reducible exact J.pl_none)
      | ((with_reducible apply J.gsplit); exact rfl; exact rfl)
      | ((with_reducible first | apply J.cond | apply JC.cond); exact rfl)
      | (intro h; exfalso; fail)
      | (intro h; (try simp only [decide_eq_true_eq, decide_eq_false_iff_not, beq_iff_eq, beq_eq_false_iff_ne, Bool.not_eq_true', Bool.not_eq_false', bne_iff_ne, bne_eq_false_iff_eq, ne_eq, ge_iff_le, gt_iff_lt] at h))
      | (with_reducible apply J.gave')
      | ((with_reducible apply J.kept'); rotate_left; (repeat (first | (with_reducible exact Outs.nil) | ((with_reducible apply Outs.cons); (repeat (first | with_reducible exact Out.here | with_reducible apply Out.there))))))
    all_goals ((try dsimp only); apply J.stE; ((try dsimp only); repeat (first | exact sub.nil _ | (refine sub.consE rfl ?_ ?_; (first | with_reducible rfl | (fail) | rfl)))))
  case hbody =>
    rintro ll D rc k ⟨⟩ hk _
    try dsimp only at *
    repeat' first
      | ((with_reducible apply J.givesR (schedule_ _ _ (chunk (pad l) (NB - (k + 1))))); exact rfl; exact rfl; focus ((exact RH.and (RH.subM (RH.row (by (repeat (first | with_reducible exact In.here | with_reducible apply In.there))))) (RH.of ⟨chunk_length (by omega), by decide⟩))))
      | refine J.one ?_
      | refine J.loudS ?_
      | (refine J.loudQ ?_; intro _ _)
      | (refine J.loudB ?_; intro _)
      | (with_reducible apply J.list)
      | ((with_reducible apply JC.draw (id := 9) [0, 0, 2, 6, 0, 30, 63, 127] (.q 0 (.p 1 (.p 2 (.q 3 (.p 4 (.p 5 (.x 6 (.x 7 .nil .none) .none))))))) (by kernel_rfl) ?_ (by kernel_rfl) ?_); (repeat (with_reducible first | exact PanicFree.body | exact PanicFree.np | exact PanicFree.lvS | apply PanicFree.then_ | apply PanicFree.blk)))
      | ((with_reducible apply JC.draw (id := 14) [0, 1, 3, 0, 8, 24, 63, 127, 255] (.p 0 (.p 1 (.q 2 (.p 3 (.p 4 (.q 5 (.p 6 (.p 7 (.x 8 .nil .none))))))))) (by kernel_rfl) ?_ (by kernel_rfl) ?_); (repeat (with_reducible first | exact PanicFree.body | exact PanicFree.np | exact PanicFree.lvS | apply PanicFree.then_ | apply PanicFree.blk)))
      | ((with_reducible apply J.pl2); exact rfl; (first | exact Gd.none | ((with_reducible apply Gd.on); exact rfl; exact rfl)); (repeat (first | (with_reducible exact PendF.nil) | ((with_reducible apply PendF.keep); exact rfl) | ((with_reducible apply PendF.gone); exact rfl))))
      | ((with_reducible apply J.pl2_off); exact rfl; ((with_reducible apply Gd.off); exact rfl; exact rfl; exact rfl); exact rfl; (repeat (first | (with_reducible exact PendF.nil) | ((with_reducible apply PendF.keep); exact rfl) | ((with_reducible apply PendF.gone); exact rfl))))
      | ((with_reducible apply J.pl2_off_none); exact rfl; ((with_reducible apply Gd.off); exact rfl; exact rfl; exact rfl); (repeat (first | (with_reducible exact PendF.nil) | ((with_reducible apply PendF.keep); exact rfl) | ((with_reducible apply PendF.gone); exact rfl))))
      | ((with_reducible first | apply J.psplit0 | apply J.psplit1 | apply J.psplit2); exact rfl; exact rfl; exact rfl)
      | (with_reducible exact J.pl_none)
      | ((with_reducible apply J.gsplit); exact rfl; exact rfl)
      | ((with_reducible first | apply J.cond | apply JC.cond); exact rfl)
      | (intro h; exfalso; fail)
      | (intro h; (try simp only [decide_eq_true_eq, decide_eq_false_iff_not, beq_iff_eq, beq_eq_false_iff_ne, Bool.not_eq_true', Bool.not_eq_false', bne_iff_ne, bne_eq_false_iff_eq, ne_eq, ge_iff_le, gt_iff_lt] at h))
      | (with_reducible apply J.gave')
      | ((with_reducible apply J.kept'); rotate_left; (repeat (first | (with_reducible exact Outs.nil) | ((with_reducible apply Outs.cons); (repeat (first | with_reducible exact Out.here | with_reducible apply Out.there))))))
    rename_i b6 b7
    apply J.reB (b := b7) (C' := st8 (Sha.rnds (sch (chunk (pad l) (NB - (k + 1))) 48) (sums (pad l) (NB - (k + 1))) 0))
    · (repeat (first | with_reducible exact Upd.here | with_reducible apply Upd.there))
    · rfl
    apply JC.loopI (σ := Nat) (I := fun s => (s ≤ 64)) (L := fun s => [(23, .agg (tab (fun j => u32 (sch (chunk (pad l) (NB - (k + 1))) 48 j)) 64).toArray), (24, .int .i64 (s : Int)), (3, .pointer (some ⟨b3, 0, none⟩)), (4, .pointer (some ⟨b4, 0, none⟩)), (7, .pointer (some ⟨b7, 0, none⟩))]) (HH := fun s => [blk b7 (st8 (Sha.rnds (sch (chunk (pad l) (NB - (k + 1))) 48) (sums (pad l) (NB - (k + 1))) s)) 181, blk b6 (tab (fun j => u32 (sch (chunk (pad l) (NB - (k + 1))) 48 j)) 64) 165, obj ll (.loop rc), obj D (.deferred (some [])), blk b3 (st8 (sums (pad l) (NB - (k + 1)))) 181, blk b4 (tab (fun j => u32 (kw j)) 64) 165, row (.slice q.1 (pad l).length q.2) 5 1 (pad l).length (bcs (pad l)), blk Bs [.slice q.1 (pad l).length q.2] 93, blk Bn [.int .i64 64] 3]) (m := fun s => 64 - s) (s0 := 0)
    · ((try dsimp only); (exact Nat.zero_le _))
    · ((try dsimp only); repeat (first | exact sub.nil _ | (refine sub.consE rfl ?_ ?_; (first | with_reducible rfl | (fail) | rfl))))
    · ((try dsimp only); (repeat (first | (with_reducible exact Outs.nil) | ((with_reducible apply Outs.cons); (repeat (first | with_reducible exact Out.here | with_reducible apply Out.there))))))
    rintro nn j hnn hJ hK
    try dsimp only at hnn hJ ⊢
    repeat' first
      | (refine J.qv ?_; (with_reducible apply exq); focus (first
        | ((with_reducible apply Qv.index1); exact rfl; exact rfl; (constructor <;> omega); exact tab_at rfl (by omega))
        | ((with_reducible apply Qv.indexArr); exact rfl; exact rfl; (constructor <;> omega); exact rfl)))
      | (refine J.qr ?_; (with_reducible apply exq); focus (first
        | ((with_reducible apply Qr.load1); exact rfl; (repeat (first | with_reducible exact In.here | with_reducible apply In.there)); exact tab_at rfl (by omega))))
      | (refine J.qo ?_; refine ⟨?_, ?_⟩; focus (first
        | ((with_reducible apply Qr.load1); exact rfl; (repeat (first | with_reducible exact In.here | with_reducible apply In.there)); exact tab_at rfl (by omega))))
      | ((with_reducible apply J.givesW (round_ _ _)); exact rfl; exact rfl)
      | refine J.one ?_
      | refine J.loudS ?_
      | (refine J.loudQ ?_; intro _ _)
      | (refine J.loudB ?_; intro _)
      | (with_reducible apply J.list)
      | ((with_reducible apply JC.draw (id := 9) [0, 0, 2, 6, 0, 30, 63, 127] (.q 0 (.p 1 (.p 2 (.q 3 (.p 4 (.p 5 (.x 6 (.x 7 .nil .none) .none))))))) (by kernel_rfl) ?_ (by kernel_rfl) ?_); (repeat (with_reducible first | exact PanicFree.body | exact PanicFree.np | exact PanicFree.lvS | apply PanicFree.then_ | apply PanicFree.blk)))
      | ((with_reducible apply JC.draw (id := 14) [0, 1, 3, 0, 8, 24, 63, 127, 255] (.p 0 (.p 1 (.q 2 (.p 3 (.p 4 (.q 5 (.p 6 (.p 7 (.x 8 .nil .none))))))))) (by kernel_rfl) ?_ (by kernel_rfl) ?_); (repeat (with_reducible first | exact PanicFree.body | exact PanicFree.np | exact PanicFree.lvS | apply PanicFree.then_ | apply PanicFree.blk)))
      | ((with_reducible apply J.pl2); exact rfl; (first | exact Gd.none | ((with_reducible apply Gd.on); exact rfl; exact rfl)); (repeat (first | (with_reducible exact PendF.nil) | ((with_reducible apply PendF.keep); exact rfl) | ((with_reducible apply PendF.gone); exact rfl))))
      | ((with_reducible apply J.pl2_off); exact rfl; ((with_reducible apply Gd.off); exact rfl; exact rfl; exact rfl); exact rfl; (repeat (first | (with_reducible exact PendF.nil) | ((with_reducible apply PendF.keep); exact rfl) | ((with_reducible apply PendF.gone); exact rfl))))
      | ((with_reducible apply J.pl2_off_none); exact rfl; ((with_reducible apply Gd.off); exact rfl; exact rfl; exact rfl); (repeat (first | (with_reducible exact PendF.nil) | ((with_reducible apply PendF.keep); exact rfl) | ((with_reducible apply PendF.gone); exact rfl))))
      | ((with_reducible first | apply J.psplit0 | apply J.psplit1 | apply J.psplit2); exact rfl; exact rfl; exact rfl)
      | (with_reducible exact J.pl_none)
      | ((with_reducible apply J.gsplit); exact rfl; exact rfl)
      | ((with_reducible first | apply J.cond | apply JC.cond); exact rfl)
      | (intro h; exfalso; (first | (simp at h; done) | (simp at h; omega) | omega))
      | (intro h; (try simp only [decide_eq_true_eq, decide_eq_false_iff_not, beq_iff_eq, beq_eq_false_iff_ne, Bool.not_eq_true', Bool.not_eq_false', bne_iff_ne, bne_eq_false_iff_eq, ne_eq, ge_iff_le, gt_iff_lt] at h))
      | (with_reducible apply J.gave')
      | ((with_reducible apply J.kept'); rotate_left; (repeat (first | (with_reducible exact Outs.nil) | ((with_reducible apply Outs.cons); (repeat (first | with_reducible exact Out.here | with_reducible apply Out.there))))))
    · have hq : j < 64 := by omega
      apply J.reB (b := b7) (C' := st8 (Sha.rnds (sch (chunk (pad l) (NB - (k + 1))) 48) (sums (pad l) (NB - (k + 1))) (j + 1)))
      · (repeat (first | with_reducible exact Upd.here | with_reducible apply Upd.there))
      · have hx : 0 + (j : Int).toNat * 1 = j := by omega
        have hy : (j : Int).toNat * 1 = j := by omega
        first
        | rfl
        | (rw [hx]; rfl)
        | (rw [hx, hy]; rfl)
        | (trace_state; fail)
      (apply JC.againI hK (s' := (j + 1)); (focus (omega)); (focus ((try dsimp only); omega)); (focus (((try dsimp only); repeat (first | exact sub.nil _ | (refine sub.consE rfl ?_ ?_; (first | with_reducible rfl | ((focus (congr 1; omega))) | rfl)))))); ((try dsimp only); (repeat (first | (with_reducible exact Outs.nil) | ((with_reducible apply Outs.cons); (repeat (first | with_reducible exact Out.here | with_reducible apply Out.there)))))))
    have e0 : j = 64 := by omega
    subst e0
    repeat' first
      | (with_reducible refine JC.rounds 9 ?_)
      | (with_reducible apply JC.round)
      | refine J.one ?_
      | refine J.loudS ?_
      | (refine J.loudQ ?_; intro _ _)
      | (refine J.loudB ?_; intro _)
      | (with_reducible apply J.list)
      | ((with_reducible apply JC.draw (id := 9) [0, 0, 2, 6, 0, 30, 63, 127] (.q 0 (.p 1 (.p 2 (.q 3 (.p 4 (.p 5 (.x 6 (.x 7 .nil .none) .none))))))) (by kernel_rfl) ?_ (by kernel_rfl) ?_); (repeat (with_reducible first | exact PanicFree.body | exact PanicFree.np | exact PanicFree.lvS | apply PanicFree.then_ | apply PanicFree.blk)))
      | ((with_reducible apply JC.draw (id := 14) [0, 1, 3, 0, 8, 24, 63, 127, 255] (.p 0 (.p 1 (.q 2 (.p 3 (.p 4 (.q 5 (.p 6 (.p 7 (.x 8 .nil .none))))))))) (by kernel_rfl) ?_ (by kernel_rfl) ?_); (repeat (with_reducible first | exact PanicFree.body | exact PanicFree.np | exact PanicFree.lvS | apply PanicFree.then_ | apply PanicFree.blk)))
      | ((with_reducible apply J.pl2); exact rfl; (first | exact Gd.none | ((with_reducible apply Gd.on); exact rfl; exact rfl)); (repeat (first | (with_reducible exact PendF.nil) | ((with_reducible apply PendF.keep); exact rfl) | ((with_reducible apply PendF.gone); exact rfl))))
      | ((with_reducible apply J.pl2_off); exact rfl; ((with_reducible apply Gd.off); exact rfl; exact rfl; exact rfl); exact rfl; (repeat (first | (with_reducible exact PendF.nil) | ((with_reducible apply PendF.keep); exact rfl) | ((with_reducible apply PendF.gone); exact rfl))))
      | ((with_reducible apply J.pl2_off_none); exact rfl; ((with_reducible apply Gd.off); exact rfl; exact rfl; exact rfl); (repeat (first | (with_reducible exact PendF.nil) | ((with_reducible apply PendF.keep); exact rfl) | ((with_reducible apply PendF.gone); exact rfl))))
      | ((with_reducible first | apply J.psplit0 | apply J.psplit1 | apply J.psplit2); exact rfl; exact rfl; exact rfl)
      | (with_reducible exact J.pl_none)
      | ((with_reducible apply J.gsplit); exact rfl; exact rfl)
      | ((with_reducible first | apply J.cond | apply JC.cond); exact rfl)
      | (intro h; exfalso; (first | (revert h; decide) | (simp at h; done)))
      | (intro h; (try simp only [decide_eq_true_eq, decide_eq_false_iff_not, beq_iff_eq, beq_eq_false_iff_ne, Bool.not_eq_true', Bool.not_eq_false', bne_iff_ne, bne_eq_false_iff_eq, ne_eq, ge_iff_le, gt_iff_lt] at h))
      | (with_reducible apply J.gave')
      | ((with_reducible apply J.kept'); rotate_left; (repeat (first | (with_reducible exact Outs.nil) | ((with_reducible apply Outs.cons); (repeat (first | with_reducible exact Out.here | with_reducible apply Out.there))))))
    all_goals
      first
      | (have e1 : NB - k = NB - (k + 1) + 1 := by omega
         apply J.reB (b := b3) (C' := st8 (sums (pad l) (NB - (k + 1) + 1)))
         · (repeat (first | with_reducible exact Upd.here | with_reducible apply Upd.there))
         · rfl
         apply J.lvN () trivial
         (dsimp only [List.cons_append, List.nil_append]; rw [e1]; (repeat (first | (with_reducible exact Outs.nil) | ((with_reducible apply Outs.cons); (repeat (first | with_reducible exact Out.here | with_reducible apply Out.there)))))))
      | (trace_state; fail)
  case hdone =>
    rintro ⟨⟩ _ D
    try dsimp only at *
    repeat' first
      | ((with_reducible apply J.givesW (begin_)); exact rfl; exact rfl)
      | ((with_reducible apply J.givesW (keys_)); exact rfl; exact rfl)
      | ((with_reducible apply J.freshR (pad_ _ _ _ l)); exact rfl; exact rfl; (focus ((exact RH.and (RH.old hr) (RH.of ⟨rfl, hl⟩)))); intro _ _)
      | ((with_reducible apply J.iterC (chunkf _ _ _ 64)); exact rfl; exact rfl; decide; intro _ _)
      | refine J.one ?_
      | refine J.loudS ?_
      | (refine J.loudQ ?_; intro _ _)
      | (refine J.loudB ?_; intro _)
      | (with_reducible apply J.list)
      | ((with_reducible apply JC.draw (id := 9) [0, 0, 2, 6, 0, 30, 63, 127] (.q 0 (.p 1 (.p 2 (.q 3 (.p 4 (.p 5 (.x 6 (.x 7 .nil .none) .none))))))) (by kernel_rfl) ?_ (by kernel_rfl) ?_); (repeat (with_reducible first | exact PanicFree.body | exact PanicFree.np | exact PanicFree.lvS | apply PanicFree.then_ | apply PanicFree.blk)))
      | ((with_reducible apply JC.draw (id := 14) [0, 1, 3, 0, 8, 24, 63, 127, 255] (.p 0 (.p 1 (.q 2 (.p 3 (.p 4 (.q 5 (.p 6 (.p 7 (.x 8 .nil .none))))))))) (by kernel_rfl) ?_ (by kernel_rfl) ?_); (repeat (with_reducible first | exact PanicFree.body | exact PanicFree.np | exact PanicFree.lvS | apply PanicFree.then_ | apply PanicFree.blk)))
      | ((with_reducible apply J.pl2); exact rfl; (first | exact Gd.none | ((with_reducible apply Gd.on); exact rfl; exact rfl)); (repeat (first | (with_reducible exact PendF.nil) | ((with_reducible apply PendF.keep); exact rfl) | ((with_reducible apply PendF.gone); exact rfl))))
      | ((with_reducible apply J.pl2_off); exact rfl; ((with_reducible apply Gd.off); exact rfl; exact rfl; exact rfl); exact rfl; (repeat (first | (with_reducible exact PendF.nil) | ((with_reducible apply PendF.keep); exact rfl) | ((with_reducible apply PendF.gone); exact rfl))))
      | ((with_reducible apply J.pl2_off_none); exact rfl; ((with_reducible apply Gd.off); exact rfl; exact rfl; exact rfl); (repeat (first | (with_reducible exact PendF.nil) | ((with_reducible apply PendF.keep); exact rfl) | ((with_reducible apply PendF.gone); exact rfl))))
      | ((with_reducible first | apply J.psplit0 | apply J.psplit1 | apply J.psplit2); exact rfl; exact rfl; exact rfl)
      | (with_reducible exact J.pl_none)
      | ((with_reducible apply J.gsplit); exact rfl; exact rfl)
      | ((with_reducible first | apply J.cond | apply JC.cond); exact rfl)
      | (intro h; exfalso; fail)
      | (intro h; (try simp only [decide_eq_true_eq, decide_eq_false_iff_not, beq_iff_eq, beq_eq_false_iff_ne, Bool.not_eq_true', Bool.not_eq_false', bne_iff_ne, bne_eq_false_iff_eq, ne_eq, ge_iff_le, gt_iff_lt] at h))
      | (with_reducible apply J.gave')
      | ((with_reducible apply J.kept'); rotate_left; (repeat (first | (with_reducible exact Outs.nil) | ((with_reducible apply Outs.cons); (repeat (first | with_reducible exact Out.here | with_reducible apply Out.there))))))
    refine J.nilRow 5 1 ?_
    apply J.reR (v' := .slice none (4 * 0) 0) (n' := 4 * 0) (C' := bcs (outS (sums (pad l) NB) 0))
    · (repeat (first | with_reducible exact Upd.here | with_reducible apply Upd.there))
    · rfl
    · rfl
    · rfl
    apply J.loopI (σ := (Nat × (Option Addr × Nat))) (I := fun s => (s.1 ≤ 8)) (L := fun s => [(11, .slice s.2.1 (4 * s.1) s.2.2), (48, .agg (st8 (sums (pad l) NB)).toArray), (49, .int .i64 (s.1 : Int))]) (HH := fun s => [obj D (.deferred (some [])), row (.slice s.2.1 (4 * s.1) s.2.2) 5 1 (4 * s.1) (bcs (outS (sums (pad l) NB) s.1))]) (m := fun s => 8 - s.1) (s0 := (0, (none, 0)))
    · ((try dsimp only); (exact Nat.zero_le _))
    · ((try dsimp only); repeat (first | exact sub.nil _ | (refine sub.consE rfl ?_ ?_; (first | with_reducible rfl | (fail) | rfl))))
    · ((try dsimp only); (repeat (first | (with_reducible exact Outs.nil) | ((with_reducible apply Outs.cons); (repeat (first | with_reducible exact Out.here | with_reducible apply Out.there))))))
    rintro ⟨i, q2⟩ hI
    try dsimp only at hI ⊢
    have hlt := (sums (pad l) NB i).isLt
    have hix : (i : Int).toNat * 1 = i := by omega
    repeat' first
      | (refine J.qv ?_; (with_reducible apply exq); focus (first
        | ((with_reducible apply Qv.index1); exact rfl; exact rfl; (constructor <;> omega); (rw [hix, st8_tab]; exact tab_get (by omega)))
        | ((with_reducible apply Qv.conv); exact rfl; exact wr64 (z := (((sums (pad l) NB i).toNat : Nat) : Int)) (by omega) (by omega) rfl)))
      | ((with_reducible apply J.freshR (num_ (sums (pad l) NB i).toNat 4)); exact rfl; exact rfl; (focus ((refine RH.of ?_; omega))); intro _ _)
      | refine J.one ?_
      | refine J.loudS ?_
      | (refine J.loudQ ?_; intro _ _)
      | (refine J.loudB ?_; intro _)
      | (with_reducible apply J.list)
      | ((with_reducible apply JC.draw (id := 9) [0, 0, 2, 6, 0, 30, 63, 127] (.q 0 (.p 1 (.p 2 (.q 3 (.p 4 (.p 5 (.x 6 (.x 7 .nil .none) .none))))))) (by kernel_rfl) ?_ (by kernel_rfl) ?_); (repeat (with_reducible first | exact PanicFree.body | exact PanicFree.np | exact PanicFree.lvS | apply PanicFree.then_ | apply PanicFree.blk)))
      | ((with_reducible apply JC.draw (id := 14) [0, 1, 3, 0, 8, 24, 63, 127, 255] (.p 0 (.p 1 (.q 2 (.p 3 (.p 4 (.q 5 (.p 6 (.p 7 (.x 8 .nil .none))))))))) (by kernel_rfl) ?_ (by kernel_rfl) ?_); (repeat (with_reducible first | exact PanicFree.body | exact PanicFree.np | exact PanicFree.lvS | apply PanicFree.then_ | apply PanicFree.blk)))
      | ((with_reducible apply J.pl2); exact rfl; (first | exact Gd.none | ((with_reducible apply Gd.on); exact rfl; exact rfl)); (repeat (first | (with_reducible exact PendF.nil) | ((with_reducible apply PendF.keep); exact rfl) | ((with_reducible apply PendF.gone); exact rfl))))
      | ((with_reducible apply J.pl2_off); exact rfl; ((with_reducible apply Gd.off); exact rfl; exact rfl; exact rfl); exact rfl; (repeat (first | (with_reducible exact PendF.nil) | ((with_reducible apply PendF.keep); exact rfl) | ((with_reducible apply PendF.gone); exact rfl))))
      | ((with_reducible apply J.pl2_off_none); exact rfl; ((with_reducible apply Gd.off); exact rfl; exact rfl; exact rfl); (repeat (first | (with_reducible exact PendF.nil) | ((with_reducible apply PendF.keep); exact rfl) | ((with_reducible apply PendF.gone); exact rfl))))
      | ((with_reducible first | apply J.psplit0 | apply J.psplit1 | apply J.psplit2); exact rfl; exact rfl; exact rfl)
      | (with_reducible exact J.pl_none)
      | ((with_reducible apply J.gsplit); exact rfl; exact rfl)
      | ((with_reducible first | apply J.cond | apply JC.cond); exact rfl)
      | (intro h; exfalso; (first | (simp at h; done) | (simp at h; omega) | omega))
      | (intro h; (try simp only [decide_eq_true_eq, decide_eq_false_iff_not, beq_iff_eq, beq_eq_false_iff_ne, Bool.not_eq_true', Bool.not_eq_false', bne_iff_ne, bne_eq_false_iff_eq, ne_eq, ge_iff_le, gt_iff_lt] at h))
      | (with_reducible apply J.gave')
      | ((with_reducible apply J.kept'); rotate_left; (repeat (first | (with_reducible exact Outs.nil) | ((with_reducible apply Outs.cons); (repeat (first | with_reducible exact Out.here | with_reducible apply Out.there))))))
    all_goals
      first
      | (have hq : i < 8 := by omega
         rename_i q3 _ q4 _
         apply J.reR (v' := .slice q4.1 (4 * (i + 1)) q4.2) (n' := 4 * (i + 1)) (C' := bcs (outS (sums (pad l) NB) (i + 1)))
         · (repeat (first | with_reducible exact Upd.here | with_reducible apply Upd.there))
         · rfl
         · rfl
         · exact (bcs_append _ _).symm
         (apply J.againI (s := (i, q2)) (s' := (i + 1, q4)); (focus (omega)); (focus ((try dsimp only); (show i + 1 ≤ 8; omega))); (focus (((try dsimp only); repeat (first | exact sub.nil _ | (refine sub.consE rfl ?_ ?_; (first | with_reducible rfl | ((focus (first | rfl | (congr 1; omega)))) | rfl)))))); ((try dsimp only); (repeat (first | (with_reducible exact Outs.nil) | ((with_reducible apply Outs.cons); (repeat (first | with_reducible exact Out.here | with_reducible apply Out.there))))))))
      | (have hq : i = 8 := by omega
         subst hq
         ((with_reducible apply J.freshRow); (repeat (first | with_reducible exact Out.here | with_reducible apply Out.there)); exact rfl; rfl; rfl))
      | (trace_state; fail)
  case hstop =>
    intro D
    exact J.absurd_ (.there .here)
theorem text_ (ao : Option Addr) (n cap : Nat) (L : List (List UInt8)) (w : World) (hw : RdS w ao L ∧ n = L.length ∧ L.flatten.length ≤ 1099511627776 ∧ L.length ≤ 1099511627776) : CSpec Tryz.prog 62 [.slice ao n cap] [] w (Gives (str (sha L.flatten))) := by
  obtain ⟨hr, hn, hf, hm⟩ := hw
  refine spec_own0 Tryz.func62 rfl Tryz.ntmps62 rfl (l0 := [(0, .slice ao n cap)]) rfl ?_
  repeat' first
    | (refine J.qr ?_; (with_reducible apply exq); focus (first
      | ((with_reducible apply Qr.toStr); exact rfl; (with_reducible apply RH.row; (repeat (first | with_reducible exact In.here | with_reducible apply In.there))); exact (sha_length _).symm)))
    | ((with_reducible apply J.freshR (cat_ _ _ _ L)); exact rfl; exact rfl; (focus (exact RH.and (RH.sold hr) (RH.of ⟨hn, hf, hm⟩))); intro _ _)
    | ((with_reducible apply J.freshR (sum_ _ _ _ L.flatten)); exact rfl; exact rfl; (focus (exact RH.and (RH.row (by (repeat (first | with_reducible exact In.here | with_reducible apply In.there)))) (RH.of ⟨rfl, hf⟩))); intro _ _)
    | refine J.one ?_
    | refine J.loudS ?_
    | (refine J.loudQ ?_; intro _ _)
    | (refine J.loudB ?_; intro _)
    | (with_reducible apply J.list)
    | ((with_reducible apply J.gsplit); exact rfl; exact rfl)
    | ((with_reducible first | apply J.cond | apply JC.cond); exact rfl)
    | (intro h; exfalso; (first | (simp at h; done) | (simp at h; omega)))
    | (intro h; (try simp only [decide_eq_true_eq, decide_eq_false_iff_not, beq_iff_eq, beq_eq_false_iff_ne, Bool.not_eq_true', Bool.not_eq_false', bne_iff_ne, bne_eq_false_iff_eq, ne_eq, ge_iff_le, gt_iff_lt] at h))
    | (with_reducible apply J.gave')
    | ((with_reducible apply J.kept'); rotate_left; (repeat (first | (with_reducible exact Outs.nil) | ((with_reducible apply Outs.cons); (repeat (first | with_reducible exact Out.here | with_reducible apply Out.there))))))
  all_goals (rfl)
theorem short_ (ao : Option Addr) (n cap : Nat) (L : List (List UInt8)) (w : World) (hw : RdS w ao L ∧ n = L.length ∧ L.flatten.length ≤ 1099511627776 ∧ L.length ≤ 1099511627776) : CSpec Tryz.prog 177 [.slice ao n cap] [] w (Gives (str (short L.flatten))) := by
  obtain ⟨hr, hn, hf, hm⟩ := hw
  refine spec_own0 Tryz.func177 rfl Tryz.ntmps177 rfl (l0 := [(0, .slice ao n cap)]) rfl ?_
  repeat' first
    | (refine J.qv ?_; (with_reducible apply exq); focus (first
      | ((with_reducible apply Qv.slS (p := 0) (r := 8)); exact rfl; exact Bd.none; exact Bd.some rfl rfl; omega; (rw [sha_length]; omega))))
    | ((with_reducible apply J.givesR (text_ _ _ _ L)); exact rfl; exact rfl; focus (exact RH.and (RH.sold hr) (RH.of ⟨hn, hf, hm⟩)))
    | refine J.one ?_
    | refine J.loudS ?_
    | (refine J.loudQ ?_; intro _ _)
    | (refine J.loudB ?_; intro _)
    | (with_reducible apply J.list)
    | ((with_reducible apply J.gsplit); exact rfl; exact rfl)
    | ((with_reducible first | apply J.cond | apply JC.cond); exact rfl)
    | (intro h; exfalso; (first | (simp at h; done) | (simp at h; omega)))
    | (intro h; (try simp only [decide_eq_true_eq, decide_eq_false_iff_not, beq_iff_eq, beq_eq_false_iff_ne, Bool.not_eq_true', Bool.not_eq_false', bne_iff_ne, bne_eq_false_iff_eq, ne_eq, ge_iff_le, gt_iff_lt] at h))
    | (with_reducible apply J.gave')
    | ((with_reducible apply J.kept'); rotate_left; (repeat (first | (with_reducible exact Outs.nil) | ((with_reducible apply Outs.cons); (repeat (first | with_reducible exact Out.here | with_reducible apply Out.there))))))
  all_goals (rfl)
end Go.Proofs.YtljbedladifgmaaGreat.Hsum
namespace Go.Proofs.YtljbedladifgmaaGreat.Field
open Go Go.RowKit Eng
set_option linter.unusedVariables false
set_option maxRecDepth 100000
set_option linter.unusedSimpArgs false
open Sha Iter Hash Bytes Hsum Wide Tx
set_option maxHeartbeats 1000000
abbrev ow := outw 157 5
theorem nat_of {n : Int} (h : 0 ≤ n) : ∃ k : Nat, n = (k : Int) ∧ n.toNat = k := ⟨n.toNat, by omega, rfl⟩
theorem num_le (n : Nat) : num n 6 = num n 6 := rfl
/-- A text's octets, its length ahead. -/
def tx (s : List UInt8) : List UInt8 := num s.length 2 ++ s
theorem tx_length (s : List UInt8) : (tx s).length = s.length + 2 := by simp [tx, num_length]; omega
/-- A wide number's octets. -/
def wb (n : Int) : List UInt8 := num n.toNat 32
theorem wb_length (n : Int) : (wb n).length = 32 := num_length _ _
theorem new_  (w : World) (hw : True) : CSpec Tryz.prog 59 [] [] w (FreshP (fun p => [ow p []])) := by
  refine spec_own0 Tryz.func59 rfl Tryz.ntmps59 rfl (l0 := []) rfl ?_
  repeat' first
    | refine J.one ?_
    | refine J.loudS ?_
    | (refine J.loudQ ?_; intro _ _)
    | (refine J.loudB ?_; intro _)
    | (with_reducible apply J.list)
    | ((with_reducible apply J.gsplit); exact rfl; exact rfl)
    | ((with_reducible first | apply J.cond | apply JC.cond); exact rfl)
    | (intro h; exfalso; (first | (simp at h; done) | (simp at h; omega)))
    | (intro h; (try simp only [decide_eq_true_eq, decide_eq_false_iff_not, beq_iff_eq, beq_eq_false_iff_ne, Bool.not_eq_true', Bool.not_eq_false', bne_iff_ne, bne_eq_false_iff_eq, ne_eq, ge_iff_le, gt_iff_lt] at h))
    | (with_reducible apply J.gave')
    | ((with_reducible apply J.kept'); rotate_left; (repeat (first | (with_reducible exact Outs.nil) | ((with_reducible apply Outs.cons); (repeat (first | with_reducible exact Out.here | with_reducible apply Out.there))))))
  all_goals ((rename_i p; refine J.nilRow 5 1 ?_; ((with_reducible apply J.shutOut (bs := [])); (repeat (first | with_reducible exact Out.here | with_reducible apply Out.there)); (repeat (first | with_reducible exact Out.here | with_reducible apply Out.there)); (focus (first | rfl | (simp; done) | (simp; omega))); (focus (first | rfl | (simp; done) | (simp; omega))); (focus (first | rfl | exact (bcs_append _ _).symm))); exact J.post ⟨p, rfl, rfl⟩ (.cons .here .nil)))
theorem put_ (p : Nat) (l : List UInt8) (ao : Option Addr) (n cap : Nat) (m : List UInt8) (w : World) (hw : n = m.length ∧ l.length + m.length ≤ 8192) : CSpec Tryz.prog 121 [.pointer (some ⟨p, 0, none⟩), .slice ao n cap, .int .i64 0] [ow p l, row (.slice ao n cap) 5 1 n (bcs m)] w (Turns (.tuple #[]) [ow p (l ++ m)]) := by
  obtain ⟨rfl, hm⟩ := hw
  refine spec_of Tryz.func121 rfl Tryz.ntmps121 rfl (l0 := [(0, .pointer (some ⟨p, 0, none⟩)), (1, .slice ao m.length cap), (2, .int .i64 0)]) rfl ?_
  intro fp
  refine J.openOut .here ?_
  intro q hq
  repeat' first
    | refine J.one ?_
    | refine J.loudS ?_
    | (refine J.loudQ ?_; intro _ _)
    | (refine J.loudB ?_; intro _)
    | (with_reducible apply J.list)
    | ((with_reducible apply J.gsplit); exact rfl; exact rfl)
    | ((with_reducible first | apply J.cond | apply JC.cond); exact rfl)
    | (intro h; exfalso; (first | (simp at h; done) | (simp at h; omega) | omega))
    | (intro h; (try simp only [decide_eq_true_eq, decide_eq_false_iff_not, beq_iff_eq, beq_eq_false_iff_ne, Bool.not_eq_true', Bool.not_eq_false', bne_iff_ne, bne_eq_false_iff_eq, ne_eq, ge_iff_le, gt_iff_lt] at h))
    | (with_reducible apply J.gave')
    | ((with_reducible apply J.kept'); rotate_left; (repeat (first | (with_reducible exact Outs.nil) | ((with_reducible apply Outs.cons); (repeat (first | with_reducible exact Out.here | with_reducible apply Out.there))))))
  all_goals ((((with_reducible apply J.shutOut (bs := l ++ m)); (repeat (first | with_reducible exact Out.here | with_reducible apply Out.there)); (repeat (first | with_reducible exact Out.here | with_reducible apply Out.there)); (focus (first | rfl | (simp; done) | (simp; omega))); (focus (first | rfl | (simp; done) | (simp; omega))); (focus (first | rfl | exact (bcs_append _ _).symm))); ((with_reducible apply J.turned); exact rfl; (repeat (first | (with_reducible exact Outs.nil) | ((with_reducible apply Outs.cons); (repeat (first | with_reducible exact Out.here | with_reducible apply Out.there))))))))
theorem numN (p : Nat) (l : List UInt8) (n : Nat) (w : World) (hw : n ≤ 1099511627776 ∧ l.length + 6 ≤ 8192) : CSpec Tryz.prog 99 [.pointer (some ⟨p, 0, none⟩), .int .i64 (n : Int)] [ow p l] w (Turns (.tuple #[]) [ow p (l ++ num n 6)]) := by
  obtain ⟨hn, hm⟩ := hw
  refine spec_of Tryz.func99 rfl Tryz.ntmps99 rfl (l0 := [(0, .pointer (some ⟨p, 0, none⟩)), (1, .int .i64 (n : Int))]) rfl ?_
  intro fp
  repeat' first
    | ((with_reducible apply J.freshR (num_ n 6)); exact rfl; exact rfl; (focus ((refine RH.of ?_; omega))); intro _ _)
    | ((with_reducible apply J.turnsP (put_ _ _ _ _ _ _)); exact rfl; exact rfl; (repeat (first | (with_reducible exact Outs.nil) | ((with_reducible apply Outs.cons); (repeat (first | with_reducible exact Out.here | with_reducible apply Out.there))))); (focus ((refine ⟨(num_length _ _).symm, ?_⟩; rw [num_length]; omega))); (try dsimp only [List.cons_append, List.nil_append]))
    | refine J.one ?_
    | refine J.loudS ?_
    | (refine J.loudQ ?_; intro _ _)
    | (refine J.loudB ?_; intro _)
    | (with_reducible apply J.list)
    | ((with_reducible apply J.gsplit); exact rfl; exact rfl)
    | ((with_reducible first | apply J.cond | apply JC.cond); exact rfl)
    | (intro h; exfalso; (first | (simp at h; done) | (simp at h; omega) | omega))
    | (intro h; (try simp only [decide_eq_true_eq, decide_eq_false_iff_not, beq_iff_eq, beq_eq_false_iff_ne, Bool.not_eq_true', Bool.not_eq_false', bne_iff_ne, bne_eq_false_iff_eq, ne_eq, ge_iff_le, gt_iff_lt] at h))
    | (with_reducible apply J.gave')
    | ((with_reducible apply J.kept'); rotate_left; (repeat (first | (with_reducible exact Outs.nil) | ((with_reducible apply Outs.cons); (repeat (first | with_reducible exact Out.here | with_reducible apply Out.there))))))
  all_goals (((with_reducible apply J.turned); exact rfl; (repeat (first | (with_reducible exact Outs.nil) | ((with_reducible apply Outs.cons); (repeat (first | with_reducible exact Out.here | with_reducible apply Out.there)))))))
theorem num_w (p : Nat) (l : List UInt8) (n : Int) (w : World) (hw : 0 ≤ n ∧ n ≤ 1099511627776 ∧ l.length + 6 ≤ 8192) : CSpec Tryz.prog 99 [.pointer (some ⟨p, 0, none⟩), .int .i64 n] [ow p l] w (Turns (.tuple #[]) [ow p (l ++ num n.toNat 6)]) := by
  obtain ⟨k, rfl, e⟩ := nat_of hw.1
  rw [e]
  exact numN p l k w ⟨by omega, hw.2.2⟩
theorem text_w (p : Nat) (l s : List UInt8) (w : World) (hw : s.length ≤ 1024 ∧ l.length + s.length ≤ 8190) : CSpec Tryz.prog 98 [.pointer (some ⟨p, 0, none⟩), str s] [ow p l] w (Turns (.tuple #[]) [ow p (l ++ tx s)]) := by
  obtain ⟨hn, hm⟩ := hw
  refine spec_of Tryz.func98 rfl Tryz.ntmps98 rfl (l0 := [(0, .pointer (some ⟨p, 0, none⟩)), (1, str s)]) rfl ?_
  intro fp
  repeat' first
    | ((with_reducible apply J.freshR (num_ s.length 2)); exact rfl; exact rfl; (focus ((refine RH.of ?_; omega))); intro _ _)
    | ((with_reducible apply J.freshR (cat_ _ _ _ [num s.length 2, s])); exact rfl; exact rfl; (focus (exact RH.and (RH.sblk (by (repeat (first | with_reducible exact In.here | with_reducible apply In.there))) (RH.lcons (RH.brow (by (repeat (first | with_reducible exact In.here | with_reducible apply In.there)))) (RH.lcons (RH.bbat (by (repeat (first | with_reducible exact In.here | with_reducible apply In.there)))) RH.lnil))) (RH.of ⟨rfl, by simp [num_length]; omega, by simp⟩))); intro _ _)
    | ((with_reducible apply J.turnsP (put_ _ _ _ _ _ _)); exact rfl; exact rfl; (repeat (first | (with_reducible exact Outs.nil) | ((with_reducible apply Outs.cons); (repeat (first | with_reducible exact Out.here | with_reducible apply Out.there))))); (focus ((refine ⟨rfl, ?_⟩; simp [num_length]; omega))); (try dsimp only [List.cons_append, List.nil_append]))
    | refine J.one ?_
    | refine J.loudS ?_
    | (refine J.loudQ ?_; intro _ _)
    | (refine J.loudB ?_; intro _)
    | (with_reducible apply J.list)
    | ((with_reducible apply J.gsplit); exact rfl; exact rfl)
    | ((with_reducible first | apply J.cond | apply JC.cond); exact rfl)
    | (intro h; exfalso; (first | (simp at h; done) | (simp at h; omega) | omega))
    | (intro h; (try simp only [decide_eq_true_eq, decide_eq_false_iff_not, beq_iff_eq, beq_eq_false_iff_ne, Bool.not_eq_true', Bool.not_eq_false', bne_iff_ne, bne_eq_false_iff_eq, ne_eq, ge_iff_le, gt_iff_lt] at h))
    | (with_reducible apply J.gave')
    | ((with_reducible apply J.kept'); rotate_left; (repeat (first | (with_reducible exact Outs.nil) | ((with_reducible apply Outs.cons); (repeat (first | with_reducible exact Out.here | with_reducible apply Out.there))))))
  all_goals
    first
    | (have e : ([num s.length 2, s] : List (List UInt8)).flatten = tx s := by simp [tx]
       rw [e]
       ((with_reducible apply J.turned); exact rfl; (repeat (first | (with_reducible exact Outs.nil) | ((with_reducible apply Outs.cons); (repeat (first | with_reducible exact Out.here | with_reducible apply Out.there)))))))
    | (trace_state; fail)
theorem wb_step (n k j : Nat) (hk : k ≤ 3) (hj : j < 8) : num (n / 256 ^ (8 * k + 8 - j)) (8 * (3 - k) + j) ++ [UInt8.ofNat (n / 256 ^ (8 * k + 7 - j))] = num (n / 256 ^ (8 * k + 8 - (j + 1))) (8 * (3 - k) + (j + 1)) := by
  rw [show 8 * (3 - k) + (j + 1) = (8 * (3 - k) + j) + 1 by omega, num, Nat.div_div_eq_div_mul, ← Nat.pow_succ]
  rw [show (8 * k + 8 - (j + 1)).succ = 8 * k + 8 - j by omega, show 8 * k + 8 - (j + 1) = 8 * k + 7 - j by omega]
def wbp (n k : Nat) : List UInt8 := num (n / 256 ^ (8 * k)) (8 * (4 - k))
theorem wb_byte (n k j : Nat) (hj : j < 8) : n / 18446744073709551616 ^ k % 18446744073709551616 / 2 ^ (56 - 8 * j) % 256 = n / 256 ^ (8 * k + 7 - j) % 256 := by
  have e1 : (18446744073709551616 : Nat) = 256 ^ 8 := by decide
  have e2 : 256 ^ (8 * k + 7 - j) = (256 ^ 8) ^ k * 2 ^ (56 - 8 * j) := by
    rw [← Nat.pow_mul, show (256 : Nat) = 2 ^ 8 from rfl, ← Nat.pow_mul, ← Nat.pow_mul, ← Nat.pow_add]
    congr 1
    omega
  rw [e2, ← Nat.div_div_eq_div_mul, ← e1]
  generalize n / 18446744073709551616 ^ k = m
  obtain ⟨i, hi⟩ : ∃ i, i ≤ 7 ∧ 56 - 8 * j = 8 * i := ⟨7 - j, by omega, by omega⟩
  rw [hi.2]
  rcases (by omega : i = 0 ∨ i = 1 ∨ i = 2 ∨ i = 3 ∨ i = 4 ∨ i = 5 ∨ i = 6 ∨ i = 7) with rfl | rfl | rfl | rfl | rfl | rfl | rfl | rfl <;> simp only [Nat.reduceMul, Nat.reducePow] <;> omega
theorem wrapu8 {n : Nat} : IntKind.u8.wrap (n : Int) = ((n % 256 : Nat) : Int) := wr8
theorem shrx {x j : Nat} (hj : j < 8) : ((x : Nat) : Int).fdiv (2 ^ (min (56 - 8 * (j : Int)).toNat IntKind.u64.bits)) = ((x / 2 ^ (56 - 8 * j) : Nat) : Int) := by
  have e : min (56 - 8 * (j : Int)).toNat IntKind.u64.bits = 56 - 8 * j := by
    show min (56 - 8 * (j : Int)).toNat 64 = _
    omega
  have e2 : ((2 : Int) ^ (56 - 8 * j)) = ((2 ^ (56 - 8 * j) : Nat) : Int) := by push_cast; rfl
  rw [e, e2, Int.fdiv_eq_ediv_of_nonneg _ (Int.natCast_nonneg _)]
  rfl
def wx (m k : Nat) : Nat := m / 18446744073709551616 ^ k % 18446744073709551616
theorem wx_get {m k : Nat} (hk : k < 4) : (wv (m : Int))[k]? = some (.int .u64 ((wx m k : Nat) : Int)) := by
  rw [wv_get hk]
  congr 2
theorem wbp_0 (m : Nat) : wbp m 0 = num m 32 := by simp [wbp]
theorem wbp_4 (m : Nat) : wbp m 4 = [] := rfl
theorem wide_ (m : Nat) (w : World) (hw : True) : CSpec Tryz.prog 170 [.agg (wv (m : Int)).toArray] [] w (Fresh 5 1 32 (bcs (num m 32)) []) := by
  refine spec_ownM Tryz.func170 rfl Tryz.ntmps170 rfl (l0 := [(0, .agg (wv (m : Int)).toArray)]) rfl ?_
  refine J.noPanic ?_
  repeat' first
    | ((with_reducible apply J.iterB (backward_uint64 _ _ _)); exact rfl; exact rfl; intro _)
    | refine J.one ?_
    | refine J.loudS ?_
    | (refine J.loudQ ?_; intro _ _)
    | (refine J.loudB ?_; intro _)
    | (with_reducible apply J.list)
    | ((with_reducible apply JC.draw (id := 7) [0, 0, 0, 6, 14, 30, 63, 127] (.q 0 (.p 1 (.p 2 (.p 3 (.p 4 (.x 5 (.x 6 (.x 7 .nil .none) .none) .none)))))) (by kernel_rfl) ?_ (by kernel_rfl) ?_); (repeat (with_reducible first | exact PanicFree.body | exact PanicFree.np | exact PanicFree.lvS | apply PanicFree.then_ | apply PanicFree.blk)))
    | ((with_reducible apply J.pl2); exact rfl; (first | exact Gd.none | ((with_reducible apply Gd.on); exact rfl; exact rfl)); (repeat (first | (with_reducible exact PendF.nil) | ((with_reducible apply PendF.keep); exact rfl) | ((with_reducible apply PendF.gone); exact rfl))))
    | ((with_reducible apply J.pl2_off); exact rfl; ((with_reducible apply Gd.off); exact rfl; exact rfl; exact rfl); exact rfl; (repeat (first | (with_reducible exact PendF.nil) | ((with_reducible apply PendF.keep); exact rfl) | ((with_reducible apply PendF.gone); exact rfl))))
    | ((with_reducible apply J.pl2_off_none); exact rfl; ((with_reducible apply Gd.off); exact rfl; exact rfl; exact rfl); (repeat (first | (with_reducible exact PendF.nil) | ((with_reducible apply PendF.keep); exact rfl) | ((with_reducible apply PendF.gone); exact rfl))))
    | ((with_reducible first | apply J.psplit0 | apply J.psplit1 | apply J.psplit2); exact rfl; exact rfl; exact rfl)
    | (with_reducible exact J.pl_none)
    | ((with_reducible apply J.gsplit); exact rfl; exact rfl)
    | ((with_reducible first | apply J.cond | apply JC.cond); exact rfl)
    | (intro h; exfalso; fail)
    | (intro h; (try simp only [decide_eq_true_eq, decide_eq_false_iff_not, beq_iff_eq, beq_eq_false_iff_ne, Bool.not_eq_true', Bool.not_eq_false', bne_iff_ne, bne_eq_false_iff_eq, ne_eq, ge_iff_le, gt_iff_lt] at h))
    | (with_reducible apply J.gave')
    | ((with_reducible apply J.kept'); rotate_left; (repeat (first | (with_reducible exact Outs.nil) | ((with_reducible apply Outs.cons); (repeat (first | with_reducible exact Out.here | with_reducible apply Out.there))))))
  rename_i p1 p3 Bs
  refine J.nilRow 5 1 ?_
  apply J.reR (v' := .slice none (8 * (4 - 4)) 0) (n' := 8 * (4 - 4)) (C' := bcs (wbp m 4))
  · (repeat (first | with_reducible exact Upd.here | with_reducible apply Upd.there))
  · rfl
  · rfl
  · rfl
  apply J.reB (b := p3) (C' := [.slice none (8 * (4 - 4)) 0])
  · (repeat (first | with_reducible exact Upd.here | with_reducible apply Upd.there))
  · rfl
  apply J.rangeG (ps := [9, 10]) (back_uint64 Bs p1 4 4 (fun k => ((wx m k : Nat) : Int)) (by decide)) (fun _ (_ : Option Addr × Nat) => True) (fun k q => [blk p1 (wv (m : Int)) 27, blk p3 [.slice q.1 (8 * (4 - k)) q.2] 93, row (.slice q.1 (8 * (4 - k)) q.2) 5 1 (8 * (4 - k)) (bcs (wbp m k)), blk Bs [.slice (some ⟨p1, 0, none⟩) 4 4] 226]) [falseA] (fun k => [(5, .int .u64 ((wx m k : Nat) : Int)), (3, .pointer (some ⟨p3, 0, none⟩))]) (none, 0)
  case hg => rfl
  case hps => rfl
  case hlen => exact fun k => rfl
  case hF => exact fun k q W _ s => ⟨s.cell (.tail _ (.tail _ (.tail _ (.head _)))) rfl, fun j hj hlt => s.cell (.head _) (wx_get hlt)⟩
  case hI => trivial
  case ho => ((try dsimp only); (repeat (first | (with_reducible exact Outs.nil) | ((with_reducible apply Outs.cons); (repeat (first | with_reducible exact Out.here | with_reducible apply Out.there))))))
  case hm => kernel_rfl
  case hka => rfl
  case hkb => rfl
  case hassign =>
    intro k A
    try dsimp only [putSl]
    repeat' first
      | ((with_reducible apply J.iterB (backward_uint64 _ _ _)); exact rfl; exact rfl; intro _)
      | refine J.one ?_
      | refine J.loudS ?_
      | (refine J.loudQ ?_; intro _ _)
      | (refine J.loudB ?_; intro _)
      | (with_reducible apply J.list)
      | ((with_reducible apply JC.draw (id := 7) [0, 0, 0, 6, 14, 30, 63, 127] (.q 0 (.p 1 (.p 2 (.p 3 (.p 4 (.x 5 (.x 6 (.x 7 .nil .none) .none) .none)))))) (by kernel_rfl) ?_ (by kernel_rfl) ?_); (repeat (with_reducible first | exact PanicFree.body | exact PanicFree.np | exact PanicFree.lvS | apply PanicFree.then_ | apply PanicFree.blk)))
      | ((with_reducible apply J.pl2); exact rfl; (first | exact Gd.none | ((with_reducible apply Gd.on); exact rfl; exact rfl)); (repeat (first | (with_reducible exact PendF.nil) | ((with_reducible apply PendF.keep); exact rfl) | ((with_reducible apply PendF.gone); exact rfl))))
      | ((with_reducible apply J.pl2_off); exact rfl; ((with_reducible apply Gd.off); exact rfl; exact rfl; exact rfl); exact rfl; (repeat (first | (with_reducible exact PendF.nil) | ((with_reducible apply PendF.keep); exact rfl) | ((with_reducible apply PendF.gone); exact rfl))))
      | ((with_reducible apply J.pl2_off_none); exact rfl; ((with_reducible apply Gd.off); exact rfl; exact rfl; exact rfl); (repeat (first | (with_reducible exact PendF.nil) | ((with_reducible apply PendF.keep); exact rfl) | ((with_reducible apply PendF.gone); exact rfl))))
      | ((with_reducible first | apply J.psplit0 | apply J.psplit1 | apply J.psplit2); exact rfl; exact rfl; exact rfl)
      | (with_reducible exact J.pl_none)
      | ((with_reducible apply J.gsplit); exact rfl; exact rfl)
      | ((with_reducible first | apply J.cond | apply JC.cond); exact rfl)
      | (intro h; exfalso; fail)
      | (intro h; (try simp only [decide_eq_true_eq, decide_eq_false_iff_not, beq_iff_eq, beq_eq_false_iff_ne, Bool.not_eq_true', Bool.not_eq_false', bne_iff_ne, bne_eq_false_iff_eq, ne_eq, ge_iff_le, gt_iff_lt] at h))
      | (with_reducible apply J.gave')
      | ((with_reducible apply J.kept'); rotate_left; (repeat (first | (with_reducible exact Outs.nil) | ((with_reducible apply Outs.cons); (repeat (first | with_reducible exact Out.here | with_reducible apply Out.there))))))
    all_goals ((try dsimp only); apply J.stE; ((try dsimp only); repeat (first | exact sub.nil _ | (refine sub.consE rfl ?_ ?_; (first | with_reducible rfl | (fail) | rfl)))))
  case hbody =>
    rintro ll D rc k q hk _
    try dsimp only at *
    repeat' first
      | refine J.one ?_
      | refine J.loudS ?_
      | (refine J.loudQ ?_; intro _ _)
      | (refine J.loudB ?_; intro _)
      | (with_reducible apply J.list)
      | ((with_reducible apply JC.draw (id := 7) [0, 0, 0, 6, 14, 30, 63, 127] (.q 0 (.p 1 (.p 2 (.p 3 (.p 4 (.x 5 (.x 6 (.x 7 .nil .none) .none) .none)))))) (by kernel_rfl) ?_ (by kernel_rfl) ?_); (repeat (with_reducible first | exact PanicFree.body | exact PanicFree.np | exact PanicFree.lvS | apply PanicFree.then_ | apply PanicFree.blk)))
      | ((with_reducible apply J.pl2); exact rfl; (first | exact Gd.none | ((with_reducible apply Gd.on); exact rfl; exact rfl)); (repeat (first | (with_reducible exact PendF.nil) | ((with_reducible apply PendF.keep); exact rfl) | ((with_reducible apply PendF.gone); exact rfl))))
      | ((with_reducible apply J.pl2_off); exact rfl; ((with_reducible apply Gd.off); exact rfl; exact rfl; exact rfl); exact rfl; (repeat (first | (with_reducible exact PendF.nil) | ((with_reducible apply PendF.keep); exact rfl) | ((with_reducible apply PendF.gone); exact rfl))))
      | ((with_reducible apply J.pl2_off_none); exact rfl; ((with_reducible apply Gd.off); exact rfl; exact rfl; exact rfl); (repeat (first | (with_reducible exact PendF.nil) | ((with_reducible apply PendF.keep); exact rfl) | ((with_reducible apply PendF.gone); exact rfl))))
      | ((with_reducible first | apply J.psplit0 | apply J.psplit1 | apply J.psplit2); exact rfl; exact rfl; exact rfl)
      | (with_reducible exact J.pl_none)
      | ((with_reducible apply J.gsplit); exact rfl; exact rfl)
      | ((with_reducible first | apply J.cond | apply JC.cond); exact rfl)
      | (intro h; exfalso; fail)
      | (intro h; (try simp only [decide_eq_true_eq, decide_eq_false_iff_not, beq_iff_eq, beq_eq_false_iff_ne, Bool.not_eq_true', Bool.not_eq_false', bne_iff_ne, bne_eq_false_iff_eq, ne_eq, ge_iff_le, gt_iff_lt] at h))
      | (with_reducible apply J.gave')
      | ((with_reducible apply J.kept'); rotate_left; (repeat (first | (with_reducible exact Outs.nil) | ((with_reducible apply Outs.cons); (repeat (first | with_reducible exact Out.here | with_reducible apply Out.there))))))
    have e3 : 8 * (4 - (k + 1)) = 8 * (3 - k) + 0 := by omega
    apply J.reR (v' := .slice q.1 (8 * (3 - k) + 0) q.2) (n' := 8 * (3 - k) + 0) (C' := bcs (num (m / 256 ^ (8 * k + 8 - 0)) (8 * (3 - k) + 0)))
    · (repeat (first | with_reducible exact Upd.here | with_reducible apply Upd.there))
    · rw [e3]
    · exact e3
    · (unfold wbp; rw [e3]; rfl)
    apply J.reB (b := p3) (C' := [.slice q.1 (8 * (3 - k) + 0) q.2])
    · (repeat (first | with_reducible exact Upd.here | with_reducible apply Upd.there))
    · rw [e3]
    apply JC.loopI (σ := (Nat × (Option Addr × Nat))) (I := fun s => (s.1 ≤ 8)) (L := fun s => [(5, .int .u64 ((wx m k : Nat) : Int)), (3, .pointer (some ⟨p3, 0, none⟩)), (6, .int .i64 (56 - 8 * (s.1 : Int)))]) (HH := fun s => [obj ll (.loop rc), obj D (.deferred (some [])), blk p1 (wv (m : Int)) 27, blk p3 [.slice s.2.1 (8 * (3 - k) + s.1) s.2.2] 93, row (.slice s.2.1 (8 * (3 - k) + s.1) s.2.2) 5 1 (8 * (3 - k) + s.1) (bcs (num (m / 256 ^ (8 * k + 8 - s.1)) (8 * (3 - k) + s.1))), blk Bs [.slice (some ⟨p1, 0, none⟩) 4 4] 226]) (m := fun s => 8 - s.1) (s0 := (0, q))
    · ((try dsimp only); (exact Nat.zero_le _))
    · ((try dsimp only); repeat (first | exact sub.nil _ | (refine sub.consE rfl ?_ ?_; (first | with_reducible rfl | (fail) | rfl))))
    · ((try dsimp only); (repeat (first | (with_reducible exact Outs.nil) | ((with_reducible apply Outs.cons); (repeat (first | with_reducible exact Out.here | with_reducible apply Out.there))))))
    rintro nn ⟨j, r⟩ hnn hJ hK
    try dsimp only at hnn hJ ⊢
    rcases Nat.lt_or_ge j 8 with hq | hq
    · repeat' first
        | (refine J.qv ?_; (with_reducible apply exq); focus (first
          | ((with_reducible apply Qv.shr); exact rfl; exact rfl; omega; exact shrx hq)
          | ((with_reducible apply Qv.conv); exact rfl; exact wrapu8)))
        | refine J.one ?_
        | refine J.loudS ?_
        | (refine J.loudQ ?_; intro _ _)
        | (refine J.loudB ?_; intro _)
        | (with_reducible apply J.list)
        | ((with_reducible apply JC.draw (id := 7) [0, 0, 0, 6, 14, 30, 63, 127] (.q 0 (.p 1 (.p 2 (.p 3 (.p 4 (.x 5 (.x 6 (.x 7 .nil .none) .none) .none)))))) (by kernel_rfl) ?_ (by kernel_rfl) ?_); (repeat (with_reducible first | exact PanicFree.body | exact PanicFree.np | exact PanicFree.lvS | apply PanicFree.then_ | apply PanicFree.blk)))
        | ((with_reducible apply J.pl2); exact rfl; (first | exact Gd.none | ((with_reducible apply Gd.on); exact rfl; exact rfl)); (repeat (first | (with_reducible exact PendF.nil) | ((with_reducible apply PendF.keep); exact rfl) | ((with_reducible apply PendF.gone); exact rfl))))
        | ((with_reducible apply J.pl2_off); exact rfl; ((with_reducible apply Gd.off); exact rfl; exact rfl; exact rfl); exact rfl; (repeat (first | (with_reducible exact PendF.nil) | ((with_reducible apply PendF.keep); exact rfl) | ((with_reducible apply PendF.gone); exact rfl))))
        | ((with_reducible apply J.pl2_off_none); exact rfl; ((with_reducible apply Gd.off); exact rfl; exact rfl; exact rfl); (repeat (first | (with_reducible exact PendF.nil) | ((with_reducible apply PendF.keep); exact rfl) | ((with_reducible apply PendF.gone); exact rfl))))
        | ((with_reducible first | apply J.psplit0 | apply J.psplit1 | apply J.psplit2); exact rfl; exact rfl; exact rfl)
        | (with_reducible exact J.pl_none)
        | ((with_reducible apply J.gsplit); exact rfl; exact rfl)
        | ((with_reducible first | apply J.cond | apply JC.cond); exact rfl)
        | (intro h; exfalso; (first | (simp at h; done) | (simp at h; omega) | omega))
        | (intro h; (try simp only [decide_eq_true_eq, decide_eq_false_iff_not, beq_iff_eq, beq_eq_false_iff_ne, Bool.not_eq_true', Bool.not_eq_false', bne_iff_ne, bne_eq_false_iff_eq, ne_eq, ge_iff_le, gt_iff_lt] at h))
        | (with_reducible apply J.gave')
        | ((with_reducible apply J.kept'); rotate_left; (repeat (first | (with_reducible exact Outs.nil) | ((with_reducible apply Outs.cons); (repeat (first | with_reducible exact Out.here | with_reducible apply Out.there))))))
      all_goals
        first
        | (rename_i r2 _
           apply J.reR (v' := .slice r2.1 (8 * (3 - k) + (j + 1)) r2.2) (n' := 8 * (3 - k) + (j + 1)) (C' := bcs (num (m / 256 ^ (8 * k + 8 - (j + 1))) (8 * (3 - k) + (j + 1))))
           · (repeat (first | with_reducible exact Upd.here | with_reducible apply Upd.there))
           · rfl
           · rfl
           · (rw [← wb_step m k j (by omega) hq, bcs_append]; simp only [bcs, List.map_cons, List.map_nil, u8_cell]; rw [← wb_byte m k j hq]; rfl)
           apply J.reB (b := p3) (C' := [.slice r2.1 (8 * (3 - k) + (j + 1)) r2.2])
           · (repeat (first | with_reducible exact Upd.here | with_reducible apply Upd.there))
           · rfl
           (apply JC.againI hK (s' := (j + 1, r2)); (focus (omega)); (focus ((try dsimp only); (show j + 1 ≤ 8; omega))); (focus (((try dsimp only); repeat (first | exact sub.nil _ | (refine sub.consE rfl ?_ ?_; (first | with_reducible rfl | ((focus (first | rfl | (congr 1; omega)))) | rfl)))))); ((try dsimp only); (repeat (first | (with_reducible exact Outs.nil) | ((with_reducible apply Outs.cons); (repeat (first | with_reducible exact Out.here | with_reducible apply Out.there))))))))
        | (trace_state; fail)
    · have e0 : j = 8 := by omega
      subst e0
      repeat' first
        | refine J.one ?_
        | refine J.loudS ?_
        | (refine J.loudQ ?_; intro _ _)
        | (refine J.loudB ?_; intro _)
        | (with_reducible apply J.list)
        | ((with_reducible apply JC.draw (id := 7) [0, 0, 0, 6, 14, 30, 63, 127] (.q 0 (.p 1 (.p 2 (.p 3 (.p 4 (.x 5 (.x 6 (.x 7 .nil .none) .none) .none)))))) (by kernel_rfl) ?_ (by kernel_rfl) ?_); (repeat (with_reducible first | exact PanicFree.body | exact PanicFree.np | exact PanicFree.lvS | apply PanicFree.then_ | apply PanicFree.blk)))
        | ((with_reducible apply J.pl2); exact rfl; (first | exact Gd.none | ((with_reducible apply Gd.on); exact rfl; exact rfl)); (repeat (first | (with_reducible exact PendF.nil) | ((with_reducible apply PendF.keep); exact rfl) | ((with_reducible apply PendF.gone); exact rfl))))
        | ((with_reducible apply J.pl2_off); exact rfl; ((with_reducible apply Gd.off); exact rfl; exact rfl; exact rfl); exact rfl; (repeat (first | (with_reducible exact PendF.nil) | ((with_reducible apply PendF.keep); exact rfl) | ((with_reducible apply PendF.gone); exact rfl))))
        | ((with_reducible apply J.pl2_off_none); exact rfl; ((with_reducible apply Gd.off); exact rfl; exact rfl; exact rfl); (repeat (first | (with_reducible exact PendF.nil) | ((with_reducible apply PendF.keep); exact rfl) | ((with_reducible apply PendF.gone); exact rfl))))
        | ((with_reducible first | apply J.psplit0 | apply J.psplit1 | apply J.psplit2); exact rfl; exact rfl; exact rfl)
        | (with_reducible exact J.pl_none)
        | ((with_reducible apply J.gsplit); exact rfl; exact rfl)
        | ((with_reducible first | apply J.cond | apply JC.cond); exact rfl)
        | (intro h; exfalso; (first | (simp at h; done) | (simp at h; omega) | omega))
        | (intro h; (try simp only [decide_eq_true_eq, decide_eq_false_iff_not, beq_iff_eq, beq_eq_false_iff_ne, Bool.not_eq_true', Bool.not_eq_false', bne_iff_ne, bne_eq_false_iff_eq, ne_eq, ge_iff_le, gt_iff_lt] at h))
        | (with_reducible apply J.gave')
        | ((with_reducible apply J.kept'); rotate_left; (repeat (first | (with_reducible exact Outs.nil) | ((with_reducible apply Outs.cons); (repeat (first | with_reducible exact Out.here | with_reducible apply Out.there))))))
      all_goals
        first
        | (have e4 : 8 * (3 - k) + 8 = 8 * (4 - k) := by omega
           apply J.reR (v' := .slice r.1 (8 * (4 - k)) r.2) (n' := 8 * (4 - k)) (C' := bcs (wbp m k))
           · (repeat (first | with_reducible exact Upd.here | with_reducible apply Upd.there))
           · rw [e4]
           · exact e4
           · (unfold wbp; rw [e4]; rfl)
           apply J.reB (b := p3) (C' := [.slice r.1 (8 * (4 - k)) r.2])
           · (repeat (first | with_reducible exact Upd.here | with_reducible apply Upd.there))
           · rw [e4]
           apply J.lvN r trivial
           (dsimp only [List.cons_append, List.nil_append]; (repeat (first | (with_reducible exact Outs.nil) | ((with_reducible apply Outs.cons); (repeat (first | with_reducible exact Out.here | with_reducible apply Out.there)))))))
        | (trace_state; fail)
  case hdone =>
    rintro q _ D
    try dsimp only at *
    repeat' first
      | ((with_reducible apply J.iterB (backward_uint64 _ _ _)); exact rfl; exact rfl; intro _)
      | refine J.one ?_
      | refine J.loudS ?_
      | (refine J.loudQ ?_; intro _ _)
      | (refine J.loudB ?_; intro _)
      | (with_reducible apply J.list)
      | ((with_reducible apply JC.draw (id := 7) [0, 0, 0, 6, 14, 30, 63, 127] (.q 0 (.p 1 (.p 2 (.p 3 (.p 4 (.x 5 (.x 6 (.x 7 .nil .none) .none) .none)))))) (by kernel_rfl) ?_ (by kernel_rfl) ?_); (repeat (with_reducible first | exact PanicFree.body | exact PanicFree.np | exact PanicFree.lvS | apply PanicFree.then_ | apply PanicFree.blk)))
      | ((with_reducible apply J.pl2); exact rfl; (first | exact Gd.none | ((with_reducible apply Gd.on); exact rfl; exact rfl)); (repeat (first | (with_reducible exact PendF.nil) | ((with_reducible apply PendF.keep); exact rfl) | ((with_reducible apply PendF.gone); exact rfl))))
      | ((with_reducible apply J.pl2_off); exact rfl; ((with_reducible apply Gd.off); exact rfl; exact rfl; exact rfl); exact rfl; (repeat (first | (with_reducible exact PendF.nil) | ((with_reducible apply PendF.keep); exact rfl) | ((with_reducible apply PendF.gone); exact rfl))))
      | ((with_reducible apply J.pl2_off_none); exact rfl; ((with_reducible apply Gd.off); exact rfl; exact rfl; exact rfl); (repeat (first | (with_reducible exact PendF.nil) | ((with_reducible apply PendF.keep); exact rfl) | ((with_reducible apply PendF.gone); exact rfl))))
      | ((with_reducible first | apply J.psplit0 | apply J.psplit1 | apply J.psplit2); exact rfl; exact rfl; exact rfl)
      | (with_reducible exact J.pl_none)
      | ((with_reducible apply J.gsplit); exact rfl; exact rfl)
      | ((with_reducible first | apply J.cond | apply JC.cond); exact rfl)
      | (intro h; exfalso; fail)
      | (intro h; (try simp only [decide_eq_true_eq, decide_eq_false_iff_not, beq_iff_eq, beq_eq_false_iff_ne, Bool.not_eq_true', Bool.not_eq_false', bne_iff_ne, bne_eq_false_iff_eq, ne_eq, ge_iff_le, gt_iff_lt] at h))
      | (with_reducible apply J.gave')
      | ((with_reducible apply J.kept'); rotate_left; (repeat (first | (with_reducible exact Outs.nil) | ((with_reducible apply Outs.cons); (repeat (first | with_reducible exact Out.here | with_reducible apply Out.there))))))
    all_goals
      first
      | ((with_reducible apply J.freshRow); (repeat (first | with_reducible exact Out.here | with_reducible apply Out.there)); exact rfl; exact rfl; exact congrArg bcs (wbp_0 m))
      | (trace_state; fail)
  case hstop =>
    intro D
    exact J.absurd_ (.there .here)
end Go.Proofs.YtljbedladifgmaaGreat.Field
namespace Go.Proofs.YtljbedladifgmaaGreat.Deal
open Go Go.RowKit Eng
set_option linter.unusedVariables false
set_option maxRecDepth 100000
set_option linter.unusedSimpArgs false
open Sha Iter Hash Bytes Hsum Wide Tx Field
set_option maxHeartbeats 1000000
theorem wide_w (p : Nat) (l : List UInt8) (n : Int) (w : World) (hw : 0 ≤ n ∧ l.length ≤ 8160) : CSpec Tryz.prog 164 [.pointer (some ⟨p, 0, none⟩), .agg (wv n).toArray] [ow p l] w (Turns (.tuple #[]) [ow p (l ++ wb n)]) := by
  obtain ⟨hn, hm⟩ := hw
  obtain ⟨k, rfl, e⟩ := nat_of hn
  refine spec_of Tryz.func164 rfl Tryz.ntmps164 rfl (l0 := [(0, .pointer (some ⟨p, 0, none⟩)), (1, .agg (wv (k : Int)).toArray)]) rfl ?_
  intro fp
  repeat' first
    | ((with_reducible apply J.freshR (wide_ k)); exact rfl; exact rfl; (focus (exact RH.true_)); intro _ _)
    | ((with_reducible apply J.turnsP (put_ _ _ _ _ _ _)); exact rfl; exact rfl; (repeat (first | (with_reducible exact Outs.nil) | ((with_reducible apply Outs.cons); (repeat (first | with_reducible exact Out.here | with_reducible apply Out.there))))); (focus ((refine ⟨(num_length _ _).symm, ?_⟩; rw [num_length]; omega))); (try dsimp only [List.cons_append, List.nil_append]))
    | refine J.one ?_
    | refine J.loudS ?_
    | (refine J.loudQ ?_; intro _ _)
    | (refine J.loudB ?_; intro _)
    | (with_reducible apply J.list)
    | ((with_reducible apply J.gsplit); exact rfl; exact rfl)
    | ((with_reducible first | apply J.cond | apply JC.cond); exact rfl)
    | (intro h; exfalso; (first | (simp at h; done) | (simp at h; omega) | omega))
    | (intro h; (try simp only [decide_eq_true_eq, decide_eq_false_iff_not, beq_iff_eq, beq_eq_false_iff_ne, Bool.not_eq_true', Bool.not_eq_false', bne_iff_ne, bne_eq_false_iff_eq, ne_eq, ge_iff_le, gt_iff_lt] at h))
    | (with_reducible apply J.gave')
    | ((with_reducible apply J.kept'); rotate_left; (repeat (first | (with_reducible exact Outs.nil) | ((with_reducible apply Outs.cons); (repeat (first | with_reducible exact Out.here | with_reducible apply Out.there))))))
  all_goals ((unfold wb; rw [e]; ((with_reducible apply J.turned); exact rfl; (repeat (first | (with_reducible exact Outs.nil) | ((with_reducible apply Outs.cons); (repeat (first | with_reducible exact Out.here | with_reducible apply Out.there))))))))
theorem done_ (p : Nat) (l : List UInt8) (w : World) (hw : l.length ≤ 8192) : CSpec Tryz.prog 61 [.pointer (some ⟨p, 0, none⟩)] [ow p l] w (DoneP 5 l.length (bcs l) []) := by
  refine spec_of Tryz.func61 rfl Tryz.ntmps61 rfl (l0 := [(0, .pointer (some ⟨p, 0, none⟩))]) rfl ?_
  intro fp
  refine J.openOut .here ?_
  intro q hq
  repeat' first
    | ((with_reducible apply J.freshR (cat_ _ _ _ [l])); exact rfl; exact rfl; (focus (exact RH.and (RH.sblk (by (repeat (first | with_reducible exact In.here | with_reducible apply In.there))) (RH.lcons (RH.brow (by (repeat (first | with_reducible exact In.here | with_reducible apply In.there)))) RH.lnil)) (RH.of ⟨rfl, by simp; omega, by simp⟩))); intro _ _)
    | refine J.one ?_
    | refine J.loudS ?_
    | (refine J.loudQ ?_; intro _ _)
    | (refine J.loudB ?_; intro _)
    | (with_reducible apply J.list)
    | ((with_reducible apply J.draw (id := 4) [0, 1, 3, 7, 0, 31] (.p 0 (.p 1 (.p 2 (.q 3 (.p 4 (.p 5 .nil)))))) (by kernel_rfl) ?_ (by kernel_rfl) ?_); (repeat (with_reducible first | exact PanicFree.body | exact PanicFree.np | exact PanicFree.lvS | apply PanicFree.then_ | apply PanicFree.blk)))
    | ((with_reducible apply J.pl2); exact rfl; (first | exact Gd.none | ((with_reducible apply Gd.on); exact rfl; exact rfl)); (repeat (first | (with_reducible exact PendF.nil) | ((with_reducible apply PendF.keep); exact rfl) | ((with_reducible apply PendF.gone); exact rfl))))
    | ((with_reducible apply J.pl2_off); exact rfl; ((with_reducible apply Gd.off); exact rfl; exact rfl; exact rfl); exact rfl; (repeat (first | (with_reducible exact PendF.nil) | ((with_reducible apply PendF.keep); exact rfl) | ((with_reducible apply PendF.gone); exact rfl))))
    | ((with_reducible apply J.pl2_off_none); exact rfl; ((with_reducible apply Gd.off); exact rfl; exact rfl; exact rfl); (repeat (first | (with_reducible exact PendF.nil) | ((with_reducible apply PendF.keep); exact rfl) | ((with_reducible apply PendF.gone); exact rfl))))
    | ((with_reducible first | apply J.psplit0 | apply J.psplit1 | apply J.psplit2); exact rfl; exact rfl; exact rfl)
    | (with_reducible exact J.pl_none)
    | ((with_reducible apply J.gsplit); exact rfl; exact rfl)
    | ((with_reducible first | apply J.cond | apply JC.cond); exact rfl)
    | (intro h; exfalso; (first | (simp at h; done) | (simp at h; omega) | omega))
    | (intro h; (try simp only [decide_eq_true_eq, decide_eq_false_iff_not, beq_iff_eq, beq_eq_false_iff_ne, Bool.not_eq_true', Bool.not_eq_false', bne_iff_ne, bne_eq_false_iff_eq, ne_eq, ge_iff_le, gt_iff_lt] at h))
    | (with_reducible apply J.gave')
    | ((with_reducible apply J.kept'); rotate_left; (repeat (first | (with_reducible exact Outs.nil) | ((with_reducible apply Outs.cons); (repeat (first | with_reducible exact Out.here | with_reducible apply Out.there))))))
  all_goals
    first
    | ((with_reducible apply J.done'); (repeat (first | (with_reducible exact Outs.nil) | ((with_reducible apply Outs.cons); (repeat (first | with_reducible exact Out.here | with_reducible apply Out.there))))); exact rfl; (focus (simp; done)); (focus (first | assumption | (simp; done))); omega)
    | (trace_state; fail)
def invB (us : Int) (rt : List UInt8) (ro se re to : Int) (id : List UInt8) : List UInt8 := tx [105, 110, 118] ++ num us.toNat 6 ++ tx rt ++ num ro.toNat 6 ++ num se.toNat 6 ++ num re.toNat 6 ++ num to.toNat 6 ++ tx id
theorem inv_ok {us ro se re to : Int} {rt id : List UInt8} (h : invE us rt ro se re to id = 0) : 0 ≤ us ∧ us ≤ 1 ∧ 2 ≤ ro ∧ ro ≤ 3 ∧ 0 ≤ se ∧ se ≤ 1 ∧ 0 ≤ re ∧ re ≤ 1 ∧ 0 ≤ to ∧ to ≤ 7 ∧ rt.length = 8 ∧ 1 ≤ id.length ∧ id.length ≤ 16 := by
  unfold invE inB at h
  split at h
  · rename_i h1
    simp at h1
    omega
  · omega
def varB (va ex : Int) : List UInt8 := wb va ++ num ex.toNat 6
theorem var_ok {va ex : Int} (h : sndE va ex = 0) : va ≠ 0 ∧ 0 ≤ ex ∧ ex ≤ 1099511627776 := by
  unfold sndE inB at h
  split at h
  · rename_i h1
    simp at h1
    omega
  · omega
theorem invB_length {us ro se re to : Int} {rt id : List UInt8} : (invB us rt ro se re to id).length = 39 + rt.length + id.length := by
  unfold invB
  simp only [List.length_append, tx_length, num_length, List.length_cons, List.length_nil]
  omega
theorem varB_length {va ex : Int} : (varB va ex).length = 38 := by simp [varB, wb_length, num_length]
/-- A transfer's key. -/
def keyF (us : Int) (rt : List UInt8) (ro se re to : Int) (id : List UInt8) : List UInt8 := if invE us rt ro se re to id = 0 then sha (invB us rt ro se re to id) else []
def digB (k : List UInt8) (va ex : Int) : List UInt8 := tx k ++ varB va ex
def digF (us : Int) (rt : List UInt8) (ro se re to : Int) (id : List UInt8) (va ex : Int) : List UInt8 := if invE us rt ro se re to id = 0 ∧ sndE va ex = 0 then sha (digB (keyF us rt ro se re to id) va ex) else []
def payB (act : Int) (k : List UInt8) (fee : Int) : List UInt8 := tx [97, 99, 116] ++ num act.toNat 6 ++ tx k ++ wb fee
def payF (act : Int) (k : List UInt8) (fee : Int) : List UInt8 := if inB act 1 2 = true ∧ k.length = 32 then payB act k fee else []
theorem keyF_length (us : Int) (rt : List UInt8) (ro se re to : Int) (id : List UInt8) : (keyF us rt ro se re to id).length = if invE us rt ro se re to id = 0 then 32 else 0 := by
  unfold keyF
  split
  · exact sha_length _
  · rfl
theorem put_inv (p : Nat) (l : List UInt8) (us : Int) (rt : List UInt8) (ro se re to : Int) (id : List UInt8) (w : World) (hw : invE us rt ro se re to id = 0 ∧ l.length ≤ 4000) : CSpec Tryz.prog 60 [.pointer (some ⟨p, 0, none⟩), .agg (invc us rt ro se re to id).toArray] [ow p l] w (Turns (.tuple #[]) [ow p (l ++ invB us rt ro se re to id)]) := by
  obtain ⟨hi, hm⟩ := hw
  obtain ⟨u0, u1, r0, r1, s0, s1, e0, e1, t0, t1, rl, i0, i1⟩ := inv_ok hi
  refine spec_of Tryz.func60 rfl Tryz.ntmps60 rfl (l0 := [(0, .pointer (some ⟨p, 0, none⟩)), (1, .agg (invc us rt ro se re to id).toArray)]) rfl ?_
  intro fp
  repeat' first
    | (with_reducible refine J.rounds 5 ?_)
    | (with_reducible apply J.round)
    | ((with_reducible apply J.turnsP (text_w _ _ _)); exact rfl; exact rfl; (repeat (first | (with_reducible exact Outs.nil) | ((with_reducible apply Outs.cons); (repeat (first | with_reducible exact Out.here | with_reducible apply Out.there))))); (focus ((refine ⟨?_, ?_⟩ <;> first | (simp; done) | omega | (simp only [List.length_append, tx_length, num_length, wb_length, List.length_cons, List.length_nil]; omega)))); (try dsimp only [List.cons_append, List.nil_append]))
    | ((with_reducible apply J.turnsP (num_w _ _ _)); exact rfl; exact rfl; (repeat (first | (with_reducible exact Outs.nil) | ((with_reducible apply Outs.cons); (repeat (first | with_reducible exact Out.here | with_reducible apply Out.there))))); (focus ((refine ⟨?_, ?_, ?_⟩ <;> first | omega | (simp only [List.length_append, tx_length, num_length, wb_length, List.length_cons, List.length_nil]; omega)))); (try dsimp only [List.cons_append, List.nil_append]))
    | refine J.one ?_
    | refine J.loudS ?_
    | (refine J.loudQ ?_; intro _ _)
    | (refine J.loudB ?_; intro _)
    | (with_reducible apply J.list)
    | ((with_reducible apply J.gsplit); exact rfl; exact rfl)
    | ((with_reducible first | apply J.cond | apply JC.cond); exact rfl)
    | (intro h; exfalso; (first | (revert h; decide) | (simp at h; done)))
    | (intro h; (try simp only [decide_eq_true_eq, decide_eq_false_iff_not, beq_iff_eq, beq_eq_false_iff_ne, Bool.not_eq_true', Bool.not_eq_false', bne_iff_ne, bne_eq_false_iff_eq, ne_eq, ge_iff_le, gt_iff_lt] at h))
    | (with_reducible apply J.gave')
    | ((with_reducible apply J.kept'); rotate_left; (repeat (first | (with_reducible exact Outs.nil) | ((with_reducible apply Outs.cons); (repeat (first | with_reducible exact Out.here | with_reducible apply Out.there))))))
  all_goals
    first
    | (apply J.reOut (bs' := l ++ invB us rt ro se re to id)
       · (repeat (first | with_reducible exact Upd.here | with_reducible apply Upd.there))
       · unfold invB; simp only [List.append_assoc]
       ((with_reducible apply J.turned); exact rfl; (repeat (first | (with_reducible exact Outs.nil) | ((with_reducible apply Outs.cons); (repeat (first | with_reducible exact Out.here | with_reducible apply Out.there)))))))
    | (trace_state; fail)
theorem put_var (p : Nat) (l : List UInt8) (va ex : Int) (w : World) (hw : 0 ≤ va ∧ 0 ≤ ex ∧ ex ≤ 1099511627776 ∧ l.length ≤ 4000) : CSpec Tryz.prog 156 [.pointer (some ⟨p, 0, none⟩), .agg (varc va ex).toArray] [ow p l] w (Turns (.tuple #[]) [ow p (l ++ varB va ex)]) := by
  obtain ⟨hv, h0, h1, hm⟩ := hw
  refine spec_of Tryz.func156 rfl Tryz.ntmps156 rfl (l0 := [(0, .pointer (some ⟨p, 0, none⟩)), (1, .agg (varc va ex).toArray)]) rfl ?_
  intro fp
  repeat' first
    | ((with_reducible apply J.turnsP (wide_w _ _ _)); exact rfl; exact rfl; (repeat (first | (with_reducible exact Outs.nil) | ((with_reducible apply Outs.cons); (repeat (first | with_reducible exact Out.here | with_reducible apply Out.there))))); (focus ((refine ⟨?_, ?_⟩ <;> first | omega | (simp only [List.length_append, tx_length, num_length, wb_length, List.length_cons, List.length_nil]; omega)))); (try dsimp only [List.cons_append, List.nil_append]))
    | ((with_reducible apply J.turnsP (num_w _ _ _)); exact rfl; exact rfl; (repeat (first | (with_reducible exact Outs.nil) | ((with_reducible apply Outs.cons); (repeat (first | with_reducible exact Out.here | with_reducible apply Out.there))))); (focus ((refine ⟨?_, ?_, ?_⟩ <;> first | omega | (simp only [List.length_append, tx_length, num_length, wb_length, List.length_cons, List.length_nil]; omega)))); (try dsimp only [List.cons_append, List.nil_append]))
    | refine J.one ?_
    | refine J.loudS ?_
    | (refine J.loudQ ?_; intro _ _)
    | (refine J.loudB ?_; intro _)
    | (with_reducible apply J.list)
    | ((with_reducible apply J.gsplit); exact rfl; exact rfl)
    | ((with_reducible first | apply J.cond | apply JC.cond); exact rfl)
    | (intro h; exfalso; (first | (simp at h; done) | (simp at h; omega) | omega))
    | (intro h; (try simp only [decide_eq_true_eq, decide_eq_false_iff_not, beq_iff_eq, beq_eq_false_iff_ne, Bool.not_eq_true', Bool.not_eq_false', bne_iff_ne, bne_eq_false_iff_eq, ne_eq, ge_iff_le, gt_iff_lt] at h))
    | (with_reducible apply J.gave')
    | ((with_reducible apply J.kept'); rotate_left; (repeat (first | (with_reducible exact Outs.nil) | ((with_reducible apply Outs.cons); (repeat (first | with_reducible exact Out.here | with_reducible apply Out.there))))))
  all_goals
    first
    | (apply J.reOut (bs' := l ++ varB va ex)
       · (repeat (first | with_reducible exact Upd.here | with_reducible apply Upd.there))
       · unfold varB; simp only [List.append_assoc]
       ((with_reducible apply J.turned); exact rfl; (repeat (first | (with_reducible exact Outs.nil) | ((with_reducible apply Outs.cons); (repeat (first | with_reducible exact Out.here | with_reducible apply Out.there)))))))
    | (trace_state; fail)
theorem key_ (us : Int) (rt : List UInt8) (ro se re to : Int) (id : List UInt8) (w : World) (hw : True) : CSpec Tryz.prog 21 [.agg (invc us rt ro se re to id).toArray] [] w (Gives (str (keyF us rt ro se re to id))) := by
  have hok := fun hi : invE us rt ro se re to id = 0 => inv_ok hi
  refine spec_own0 Tryz.func21 rfl Tryz.ntmps21 rfl (l0 := [(0, .agg (invc us rt ro se re to id).toArray)]) rfl ?_
  repeat' first
    | ((with_reducible apply J.givesW (dealCheck _ _ _ _ _ _ _)); exact rfl; exact rfl)
    | ((with_reducible apply J.newP new_); exact rfl; exact rfl; trivial; intro _; (try dsimp only [List.cons_append, List.nil_append]))
    | ((with_reducible apply J.turnsP (put_inv _ _ _ _ _ _ _ _ _)); exact rfl; exact rfl; (repeat (first | (with_reducible exact Outs.nil) | ((with_reducible apply Outs.cons); (repeat (first | with_reducible exact Out.here | with_reducible apply Out.there))))); (focus (exact ⟨by assumption, by simp⟩)); (try dsimp only [List.cons_append, List.nil_append]))
    | ((with_reducible apply J.doneP (done_ _ _)); exact rfl; exact rfl; (repeat (first | (with_reducible exact Outs.nil) | ((with_reducible apply Outs.cons); (repeat (first | with_reducible exact Out.here | with_reducible apply Out.there))))); (focus ((simp [invB_length]; omega))); intro _ _; (try dsimp only [List.cons_append, List.nil_append]))
    | ((with_reducible apply J.givesR (text_ _ _ _ [invB us rt ro se re to id])); exact rfl; exact rfl; (focus (exact RH.and (RH.sblk (by (repeat (first | with_reducible exact In.here | with_reducible apply In.there))) (RH.lcons (RH.brow (by (repeat (first | with_reducible exact In.here | with_reducible apply In.there)))) RH.lnil)) (RH.of ⟨rfl, by simp [invB_length]; try omega, by simp⟩))))
    | refine J.one ?_
    | refine J.loudS ?_
    | (refine J.loudQ ?_; intro _ _)
    | (refine J.loudB ?_; intro _)
    | (with_reducible apply J.list)
    | ((with_reducible apply J.gsplit); exact rfl; exact rfl)
    | ((with_reducible first | apply J.cond | apply JC.cond); exact rfl)
    | (intro h; exfalso; fail)
    | (intro h; (try simp only [decide_eq_true_eq, decide_eq_false_iff_not, beq_iff_eq, beq_eq_false_iff_ne, Bool.not_eq_true', Bool.not_eq_false', bne_iff_ne, bne_eq_false_iff_eq, ne_eq, ge_iff_le, gt_iff_lt] at h))
    | (with_reducible apply J.gave')
    | ((with_reducible apply J.kept'); rotate_left; (repeat (first | (with_reducible exact Outs.nil) | ((with_reducible apply Outs.cons); (repeat (first | with_reducible exact Out.here | with_reducible apply Out.there))))))
  all_goals
    first
    | (simp only [retv]; unfold keyF; rw [if_neg (by assumption)]; done)
    | (simp only [retv]; unfold keyF; rw [if_pos (by assumption)]; simp; done)
    | (trace_state; fail)
theorem digest_ (us : Int) (rt : List UInt8) (ro se re to : Int) (id : List UInt8) (va ex : Int) (w : World) (hw : Wd va) : CSpec Tryz.prog 142 [.agg (invc us rt ro se re to id).toArray, .agg (varc va ex).toArray] [] w (Gives (str (digF us rt ro se re to id va ex))) := by
  have hok := fun hi : invE us rt ro se re to id = 0 => inv_ok hi
  have hv := fun hi : sndE va ex = 0 => var_ok hi
  have hwd : 0 ≤ va := hw.1
  have hk : (keyF us rt ro se re to id).length = if invE us rt ro se re to id = 0 then 32 else 0 := keyF_length _ _ _ _ _ _ _
  have hn : keyF us rt ro se re to id = [] → invE us rt ro se re to id ≠ 0 := fun h0 hi => by rw [h0, if_pos hi] at hk; simp at hk
  have hn' : ¬keyF us rt ro se re to id = [] → invE us rt ro se re to id = 0 := fun h0 => Classical.byContradiction fun hi => h0 (List.eq_nil_of_length_eq_zero (by rw [hk, if_neg hi]))
  have hl : (keyF us rt ro se re to id).length ≤ 32 := by rw [hk]; split <;> omega
  refine spec_own0 Tryz.func142 rfl Tryz.ntmps142 rfl (l0 := [(0, .agg (invc us rt ro se re to id).toArray), (1, .agg (varc va ex).toArray)]) rfl ?_
  repeat' first
    | ((with_reducible apply J.givesR (key_ _ _ _ _ _ _ _)); exact rfl; exact rfl; focus (exact RH.true_))
    | ((with_reducible apply J.givesW (sound _ _ hw)); exact rfl; exact rfl)
    | ((with_reducible apply J.newP new_); exact rfl; exact rfl; trivial; intro _; (try dsimp only [List.cons_append, List.nil_append]))
    | ((with_reducible apply J.turnsP (text_w _ _ _)); exact rfl; exact rfl; (repeat (first | (with_reducible exact Outs.nil) | ((with_reducible apply Outs.cons); (repeat (first | with_reducible exact Out.here | with_reducible apply Out.there))))); (focus ((refine ⟨by omega, ?_⟩; simp; omega))); (try dsimp only [List.cons_append, List.nil_append]))
    | ((with_reducible apply J.turnsP (put_var _ _ _ _)); exact rfl; exact rfl; (repeat (first | (with_reducible exact Outs.nil) | ((with_reducible apply Outs.cons); (repeat (first | with_reducible exact Out.here | with_reducible apply Out.there))))); (focus (have hv2 := hv (by assumption); exact ⟨hwd, hv2.2.1, hv2.2.2, (by simp [tx_length]; omega)⟩)); (try dsimp only [List.cons_append, List.nil_append]))
    | ((with_reducible apply J.doneP (done_ _ _)); exact rfl; exact rfl; (repeat (first | (with_reducible exact Outs.nil) | ((with_reducible apply Outs.cons); (repeat (first | with_reducible exact Out.here | with_reducible apply Out.there))))); (focus ((simp [tx_length, varB_length]; omega))); intro _ _; (try dsimp only [List.cons_append, List.nil_append]))
    | ((with_reducible apply J.givesR (text_ _ _ _ [tx (keyF us rt ro se re to id) ++ varB va ex])); exact rfl; exact rfl; (focus (exact RH.and (RH.sblk (by (repeat (first | with_reducible exact In.here | with_reducible apply In.there))) (RH.lcons (RH.brow (by (repeat (first | with_reducible exact In.here | with_reducible apply In.there)))) RH.lnil)) (RH.of ⟨rfl, by simp [tx_length, varB_length]; try omega, by simp⟩))))
    | refine J.one ?_
    | refine J.loudS ?_
    | (refine J.loudQ ?_; intro _ _)
    | (refine J.loudB ?_; intro _)
    | (with_reducible apply J.list)
    | ((with_reducible apply J.gsplit); exact rfl; exact rfl)
    | ((with_reducible first | apply J.cond | apply JC.cond); exact rfl)
    | (intro h; exfalso; fail)
    | (intro h; (try simp only [decide_eq_true_eq, decide_eq_false_iff_not, beq_iff_eq, beq_eq_false_iff_ne, Bool.not_eq_true', Bool.not_eq_false', bne_iff_ne, bne_eq_false_iff_eq, ne_eq, ge_iff_le, gt_iff_lt] at h))
    | (with_reducible apply J.gave')
    | ((with_reducible apply J.kept'); rotate_left; (repeat (first | (with_reducible exact Outs.nil) | ((with_reducible apply Outs.cons); (repeat (first | with_reducible exact Out.here | with_reducible apply Out.there))))))
  all_goals
    first
    | (simp only [retv]; unfold digF; rw [if_neg (by intro hc; exact hn (by assumption) hc.1)]; done)
    | (simp only [retv]; unfold digF; rw [if_neg (by intro hc; exact absurd hc.2 (by assumption))]; done)
    | (simp only [retv]; unfold digF; rw [if_pos ⟨hn' (by assumption), (by assumption)⟩]; simp [digB]; done)
    | (trace_state; fail)
theorem payB_length {act : Int} {k : List UInt8} {fee : Int} : (payB act k fee).length = 45 + k.length := by
  unfold payB
  simp only [List.length_append, tx_length, num_length, wb_length, List.length_cons, List.length_nil]
  omega
theorem in_iff {n a b : Int} (h : inB n a b = true) : a ≤ n ∧ n ≤ b := by unfold inB at h; simp at h; omega
theorem payload_ (act : Int) (k : List UInt8) (fee : Int) (w : World) (hw : 0 ≤ fee ∧ k.length ≤ 140737488351232) : CSpec Tryz.prog 158 [.int .i64 act, str k, .agg (wv fee).toArray] [] w (Fresh 5 1 (payF act k fee).length (bcs (payF act k fee)) []) := by
  obtain ⟨hf, hkl⟩ := hw
  refine spec_own0 Tryz.func158 rfl Tryz.ntmps158 rfl (l0 := [(0, .int .i64 act), (1, str k), (2, .agg (wv fee).toArray)]) rfl ?_
  repeat' first
    | ((with_reducible apply J.givesW (in_ _ _ _)); exact rfl; exact rfl)
    | ((with_reducible apply J.newP new_); exact rfl; exact rfl; trivial; intro _; (try dsimp only [List.cons_append, List.nil_append]))
    | ((with_reducible apply J.turnsP (text_w _ _ _)); exact rfl; exact rfl; (repeat (first | (with_reducible exact Outs.nil) | ((with_reducible apply Outs.cons); (repeat (first | with_reducible exact Out.here | with_reducible apply Out.there))))); (focus ((refine ⟨?_, ?_⟩ <;> first | omega | (simp; done) | (simp [tx_length, num_length]; done) | (simp [tx_length, num_length]; omega)))); (try dsimp only [List.cons_append, List.nil_append]))
    | ((with_reducible apply J.turnsP (num_w _ _ _)); exact rfl; exact rfl; (repeat (first | (with_reducible exact Outs.nil) | ((with_reducible apply Outs.cons); (repeat (first | with_reducible exact Out.here | with_reducible apply Out.there))))); (focus ((have hin := in_iff (by assumption); refine ⟨?_, ?_, ?_⟩ <;> first | omega | (simp [tx_length]; done) | (simp [tx_length]; omega)))); (try dsimp only [List.cons_append, List.nil_append]))
    | ((with_reducible apply J.turnsP (wide_w _ _ _)); exact rfl; exact rfl; (repeat (first | (with_reducible exact Outs.nil) | ((with_reducible apply Outs.cons); (repeat (first | with_reducible exact Out.here | with_reducible apply Out.there))))); (focus ((refine ⟨?_, ?_⟩ <;> first | omega | (simp [tx_length, num_length]; done) | (simp [tx_length, num_length]; omega)))); (try dsimp only [List.cons_append, List.nil_append]))
    | ((with_reducible apply J.doneP (done_ _ _)); exact rfl; exact rfl; (repeat (first | (with_reducible exact Outs.nil) | ((with_reducible apply Outs.cons); (repeat (first | with_reducible exact Out.here | with_reducible apply Out.there))))); (focus ((simp [tx_length, num_length, wb_length]; try omega))); intro _ _; (try dsimp only [List.cons_append, List.nil_append]))
    | refine J.one ?_
    | refine J.loudS ?_
    | (refine J.loudQ ?_; intro _ _)
    | (refine J.loudB ?_; intro _)
    | (with_reducible apply J.list)
    | ((with_reducible apply J.gsplit); exact rfl; exact rfl)
    | ((with_reducible first | apply J.cond | apply JC.cond); exact rfl)
    | (intro h; exfalso; fail)
    | (intro h; (try simp only [decide_eq_true_eq, decide_eq_false_iff_not, beq_iff_eq, beq_eq_false_iff_ne, Bool.not_eq_true', Bool.not_eq_false', bne_iff_ne, bne_eq_false_iff_eq, ne_eq, ge_iff_le, gt_iff_lt] at h))
    | (with_reducible apply J.gave')
    | ((with_reducible apply J.kept'); rotate_left; (repeat (first | (with_reducible exact Outs.nil) | ((with_reducible apply Outs.cons); (repeat (first | with_reducible exact Out.here | with_reducible apply Out.there))))))
  all_goals
    first
    | (have e : payF act k fee = [] := by unfold payF; exact if_neg (by intro hc; simp_all)
       rw [e]
       refine J.nilRow 5 1 ?_
       (with_reducible apply J.freshRow)
       (repeat (first | with_reducible exact Out.here | with_reducible apply Out.there))
       all_goals rfl)
    | (have e : payF act k fee = payB act k fee := by unfold payF; exact if_pos ⟨by assumption, by omega⟩
       rw [e]
       (with_reducible apply J.freshRow)
       (repeat (first | with_reducible exact Out.here | with_reducible apply Out.there))
       exact rfl
       exact rfl
       rfl)
    | (trace_state; fail)
end Go.Proofs.YtljbedladifgmaaGreat.Deal
namespace Go.Proofs.YtljbedladifgmaaGreat.Ots
open Go Go.RowKit Eng
set_option linter.unusedVariables false
set_option maxRecDepth 100000
set_option linter.unusedSimpArgs false
open Sha Iter Hash Bytes
set_option maxHeartbeats 1000000
open Go.Proofs.YtljbedladifgmaaGreat.Hsum
/-- Whole numbers as cells. -/
def ncs (l : List Nat) : List Value := l.map fun (x : Nat) => .int .i64 (x : Int)
theorem ncs_length (l : List Nat) : (ncs l).length = l.length := by simp [ncs]
theorem ncs_append (l m : List Nat) : ncs (l ++ m) = ncs l ++ ncs m := by simp [ncs]
theorem ncs_get {l : List Nat} {i x : Nat} (h : l[i]? = some x) : (ncs l)[i]? = some (.int .i64 (x : Int)) := by simp [ncs, h]
theorem ncs_ones (l : List Nat) : (ncs l).all (·.oneCell') = true := by simp [ncs, Value.oneCell']
/-- A number's digits, the highest first. -/
def sp (n : Nat) : Nat → List Nat
  | 0 => []
  | k + 1 => sp (n / 4) k ++ [n % 4]
theorem sp_length : ∀ (k n : Nat), (sp n k).length = k
  | 0, _ => rfl
  | k + 1, n => by simp [sp, sp_length k]
theorem sp_get : ∀ {k n j : Nat}, j < k → (sp n k)[j]? = some (n / 4 ^ (k - 1 - j) % 4)
  | 0, _, j, h => by omega
  | k + 1, n, j, h => by
    rw [sp]
    rcases Nat.lt_or_ge j k with h1 | h1
    · rw [List.getElem?_append_left (by rw [sp_length]; exact h1), sp_get h1, Nat.div_div_eq_div_mul]
      congr 3
      rw [show k + 1 - 1 - j = (k - 1 - j) + 1 by omega, Nat.pow_succ, Nat.mul_comm]
    · have e : j = k := by omega
      subst e
      rw [List.getElem?_append_right (by rw [sp_length]; exact Nat.le_refl _), sp_length]
      simp
theorem sp_le {n k x : Nat} (h : x ∈ sp n k) : x ≤ 3 := by
  obtain ⟨j, hj, e⟩ := List.getElem_of_mem h
  have h1 := List.getElem?_eq_getElem hj
  rw [sp_length] at hj
  rw [sp_get hj, e] at h1
  cases h1
  omega
theorem sp_tab (n k : Nat) : ncs (sp n k) = tab (fun j => .int .i64 ((n / 4 ^ (k - 1 - j) % 4 : Nat) : Int)) k := by
  refine tab_eq (by rw [ncs_length, sp_length]) fun j hj => ?_
  rw [ncs_get (sp_get hj)]
theorem sum_take {l : List Nat} {i x : Nat} (h : l[i]? = some x) : (l.take (i + 1)).sum = (l.take i).sum + x := by
  rw [List.take_add_one, h]
  simp
theorem sum_le {l : List Nat} (h : ∀ x, x ∈ l → x ≤ 3) : l.sum ≤ 3 * l.length := by
  induction l with
  | nil => simp
  | cons a l ih =>
    have h1 := ih fun x hx => h x (by simp [hx])
    have h2 := h a (by simp)
    simp
    omega
theorem sum_take_le {n k i : Nat} : ((sp n k).take i).sum ≤ 3 * k := by
  have h := sum_le (l := (sp n k).take i) fun x hx => sp_le (List.mem_of_mem_take hx)
  have h2 : ((sp n k).take i).length ≤ k := by rw [List.length_take, sp_length]; omega
  omega
/-- The digits that are there with k rounds to go. -/
def dpart (n size k : Nat) (j : Nat) : Value := if k ≤ j then .int .i64 ((n / 4 ^ (size - 1 - j) % 4 : Nat) : Int) else .int .i64 0
theorem dpart_put {n size k : Nat} (hk : k < size) : tab (fun j => if j = k then Value.int .i64 ((n / 4 ^ (size - (k + 1)) % 4 : Nat) : Int) else dpart n size (k + 1) j) size = tab (dpart n size k) size := by
  refine tab_same fun j hj => ?_
  unfold dpart
  by_cases h : j = k
  · subst h
    rw [if_pos rfl, if_pos (Nat.le_refl _)]
    congr 5
    omega
  · rw [if_neg h]
    by_cases h2 : k ≤ j
    · rw [if_pos (by omega), if_pos h2]
    · rw [if_neg (by omega), if_neg h2]
theorem and64_low {m : Nat} (h1 : m < 9223372036854775808) (k : Nat) (hk : k ≤ 32) : andI .i64 (m : Int) ((2 ^ k - 1 : Nat) : Int) = ((m % 2 ^ k : Nat) : Int) := by
  have hp : 2 ^ k ≤ 4294967296 := Nat.le_trans (Nat.pow_le_pow_right (n := 2) (by omega) hk) (by omega)
  have hp0 := Nat.two_pow_pos k
  have e1 : (BitVec.ofInt IntKind.i64.bits (m : Int) &&& BitVec.ofInt IntKind.i64.bits ((2 ^ k - 1 : Nat) : Int)).toNat = m % 2 ^ k := by
    rw [BitVec.toNat_and, BitVec.ofInt_natCast, BitVec.ofInt_natCast, BitVec.toNat_ofNat, BitVec.toNat_ofNat]
    have b : IntKind.i64.bits = 64 := rfl
    rw [b, Nat.mod_eq_of_lt (by omega), Nat.mod_eq_of_lt (a := 2 ^ k - 1) (by omega), Nat.and_two_pow_sub_one_eq_mod]
  unfold andI
  rw [e1]
  have h2 := Nat.mod_lt m hp0
  exact wr64 (by omega) (by omega) rfl
theorem and3 {m : Nat} (h : m < 9223372036854775808) : andI .i64 (m : Int) 3 = ((m % 4 : Nat) : Int) := and64_low h 2 (by decide)
theorem shr2 {n size k : Nat} (hk : k < size) : ((n / 4 ^ (size - (k + 1)) : Nat) : Int).fdiv (2 ^ 2) = ((n / 4 ^ (size - k) : Nat) : Int) := by
  rw [Int.fdiv_eq_ediv_of_nonneg _ (by decide)]
  have e : size - k = size - (k + 1) + 1 := by omega
  rw [e, Nat.pow_succ, ← Nat.div_div_eq_div_mul]
  generalize n / 4 ^ (size - (k + 1)) = q
  omega
theorem divq (n k : Nat) : n / 4 ^ k ≤ n := Nat.div_le_self _ _
theorem spread_ (n size : Nat) (w : World) (hw : n ≤ 1099511627776 ∧ size ≤ 12) : CSpec Tryz.prog 180 [.int .i64 (n : Int), .int .i64 (size : Int)] [] w (Fresh 3 1 size (ncs (sp n size)) []) := by
  have hdv := fun k => divq n k
  refine spec_ownM Tryz.func180 rfl Tryz.ntmps180 rfl (l0 := [(0, .int .i64 (n : Int)), (1, .int .i64 (size : Int))]) rfl ?_
  refine J.noPanic ?_
  repeat' first
    | (refine J.qv ?_; (with_reducible apply exq); focus (first
      | ((with_reducible apply Qv.shr); exact rfl; exact rfl; (first | decide | omega); exact shr2 hk)
      | ((with_reducible apply Qv.andE); exact rfl; exact rfl; exact and3 (Nat.lt_of_le_of_lt (hdv _) (by omega)))
      | ((with_reducible apply Qv.indexBlk (b := b)); exact rfl; exact rfl; (constructor <;> omega); exact rfl)))
    | ((with_reducible apply J.makeSlice (len := size)); exact rfl; exact rfl; exact rfl; exact rfl; exact rfl; omega; decide; intro _)
    | ((with_reducible apply J.store1); exact rfl; exact rfl; exact rfl; (repeat (first | with_reducible exact Upd.here | with_reducible apply Upd.there)); exact tab_put (k := k) (by simp) hk; (rw [tab_length]; omega))
    | ((with_reducible apply J.iterB (backward_int _ _ _)); exact rfl; exact rfl; intro _)
    | refine J.one ?_
    | refine J.loudS ?_
    | (refine J.loudQ ?_; intro _ _)
    | (refine J.loudB ?_; intro _)
    | (with_reducible apply J.list)
    | ((with_reducible apply J.gsplit); exact rfl; exact rfl)
    | ((with_reducible first | apply J.cond | apply JC.cond); exact rfl)
    | (intro h; exfalso; fail)
    | (intro h; (try simp only [decide_eq_true_eq, decide_eq_false_iff_not, beq_iff_eq, beq_eq_false_iff_ne, Bool.not_eq_true', Bool.not_eq_false', bne_iff_ne, bne_eq_false_iff_eq, ne_eq, ge_iff_le, gt_iff_lt] at h))
    | (with_reducible apply J.gave')
    | ((with_reducible apply J.kept'); rotate_left; (repeat (first | (with_reducible exact Outs.nil) | ((with_reducible apply Outs.cons); (repeat (first | with_reducible exact Out.here | with_reducible apply Out.there))))))
  rename_i p2 b p5 Bs
  have e0 : n = n / 4 ^ (size - size) := by simp
  have e1 : tab (fun _ => Value.int .i64 0) size = tab (dpart n size size) size := tab_same fun j hj => by unfold dpart; rw [if_neg (by omega)]
  rw [e1]
  apply J.reB (b := p2) (C' := [.int .i64 ((n / 4 ^ (size - size) : Nat) : Int)])
  · (repeat (first | with_reducible exact Upd.here | with_reducible apply Upd.there))
  · rw [← e0]
  apply J.rangeG (ps := [11, 12]) (back_int Bs b size size (fun _ => 0) (by simp only [maxLen]; omega)) (fun _ (_ : Unit) => True) (fun k _ => [blk b (tab (dpart n size k) size) 3, blk p5 [.slice (some ⟨b, 0, none⟩) size size] 23, blk p2 [.int .i64 ((n / 4 ^ (size - k) : Nat) : Int)] 3, blk Bs [.slice (some ⟨b, 0, none⟩) size size] 23]) [falseA] (fun k => [(6, .int .i64 (k : Int)), (5, .pointer (some ⟨p5, 0, none⟩)), (2, .pointer (some ⟨p2, 0, none⟩))]) ()
  case hg => rfl
  case hps => rfl
  case hlen => exact fun k => rfl
  case hF => exact fun k _ W _ s => ⟨s.cell (.tail _ (.tail _ (.tail _ (.head _)))) rfl, fun j hj hlt => s.cell (.head _) (by subst hj; rw [tab_get hlt]; unfold dpart; rw [if_neg (by omega)])⟩
  case hI => trivial
  case ho => ((try dsimp only); (repeat (first | (with_reducible exact Outs.nil) | ((with_reducible apply Outs.cons); (repeat (first | with_reducible exact Out.here | with_reducible apply Out.there))))))
  case hm => kernel_rfl
  case hka => rfl
  case hkb => rfl
  case hassign =>
    intro k A
    try dsimp only [putSl]
    repeat' first
      | (refine J.qv ?_; (with_reducible apply exq); focus (first
        | ((with_reducible apply Qv.shr); exact rfl; exact rfl; (first | decide | omega); exact shr2 hk)
        | ((with_reducible apply Qv.andE); exact rfl; exact rfl; exact and3 (Nat.lt_of_le_of_lt (hdv _) (by omega)))
        | ((with_reducible apply Qv.indexBlk (b := b)); exact rfl; exact rfl; (constructor <;> omega); exact rfl)))
      | ((with_reducible apply J.makeSlice (len := size)); exact rfl; exact rfl; exact rfl; exact rfl; exact rfl; omega; decide; intro _)
      | ((with_reducible apply J.store1); exact rfl; exact rfl; exact rfl; (repeat (first | with_reducible exact Upd.here | with_reducible apply Upd.there)); exact tab_put (k := k) (by simp) hk; (rw [tab_length]; omega))
      | ((with_reducible apply J.iterB (backward_int _ _ _)); exact rfl; exact rfl; intro _)
      | refine J.one ?_
      | refine J.loudS ?_
      | (refine J.loudQ ?_; intro _ _)
      | (refine J.loudB ?_; intro _)
      | (with_reducible apply J.list)
      | ((with_reducible apply J.gsplit); exact rfl; exact rfl)
      | ((with_reducible first | apply J.cond | apply JC.cond); exact rfl)
      | (intro h; exfalso; fail)
      | (intro h; (try simp only [decide_eq_true_eq, decide_eq_false_iff_not, beq_iff_eq, beq_eq_false_iff_ne, Bool.not_eq_true', Bool.not_eq_false', bne_iff_ne, bne_eq_false_iff_eq, ne_eq, ge_iff_le, gt_iff_lt] at h))
      | (with_reducible apply J.gave')
      | ((with_reducible apply J.kept'); rotate_left; (repeat (first | (with_reducible exact Outs.nil) | ((with_reducible apply Outs.cons); (repeat (first | with_reducible exact Out.here | with_reducible apply Out.there))))))
    all_goals ((try dsimp only); apply J.stE; ((try dsimp only); repeat (first | exact sub.nil _ | (refine sub.consE rfl ?_ ?_; (first | with_reducible rfl | (fail) | rfl)))))
  case hbody =>
    rintro ll D rc k ⟨⟩ hk _
    try dsimp only at *
    repeat' first
      | (refine J.qv ?_; (with_reducible apply exq); focus (first
        | ((with_reducible apply Qv.shr); exact rfl; exact rfl; (first | decide | omega); exact shr2 hk)
        | ((with_reducible apply Qv.andE); exact rfl; exact rfl; exact and3 (Nat.lt_of_le_of_lt (hdv _) (by omega)))
        | ((with_reducible apply Qv.indexBlk (b := b)); exact rfl; exact rfl; (constructor <;> omega); exact rfl)))
      | ((with_reducible apply J.makeSlice (len := size)); exact rfl; exact rfl; exact rfl; exact rfl; exact rfl; omega; decide; intro _)
      | ((with_reducible apply J.store1); exact rfl; exact rfl; exact rfl; (repeat (first | with_reducible exact Upd.here | with_reducible apply Upd.there)); exact tab_put (k := k) (by simp) hk; (rw [tab_length]; omega))
      | ((with_reducible apply J.iterB (backward_int _ _ _)); exact rfl; exact rfl; intro _)
      | refine J.one ?_
      | refine J.loudS ?_
      | (refine J.loudQ ?_; intro _ _)
      | (refine J.loudB ?_; intro _)
      | (with_reducible apply J.list)
      | ((with_reducible apply J.gsplit); exact rfl; exact rfl)
      | ((with_reducible first | apply J.cond | apply JC.cond); exact rfl)
      | (intro h; exfalso; fail)
      | (intro h; (try simp only [decide_eq_true_eq, decide_eq_false_iff_not, beq_iff_eq, beq_eq_false_iff_ne, Bool.not_eq_true', Bool.not_eq_false', bne_iff_ne, bne_eq_false_iff_eq, ne_eq, ge_iff_le, gt_iff_lt] at h))
      | (with_reducible apply J.gave')
      | ((with_reducible apply J.kept'); rotate_left; (repeat (first | (with_reducible exact Outs.nil) | ((with_reducible apply Outs.cons); (repeat (first | with_reducible exact Out.here | with_reducible apply Out.there))))))
    all_goals
      first
      | (rw [dpart_put hk]
         apply J.lvN () trivial
         (dsimp only [List.cons_append, List.nil_append]; (repeat (first | (with_reducible exact Outs.nil) | ((with_reducible apply Outs.cons); (repeat (first | with_reducible exact Out.here | with_reducible apply Out.there)))))))
      | (trace_state; fail)
  case hdone =>
    rintro ⟨⟩ _ D
    try dsimp only at *
    repeat' first
      | (refine J.qv ?_; (with_reducible apply exq); focus (first
        | ((with_reducible apply Qv.shr); exact rfl; exact rfl; (first | decide | omega); exact shr2 hk)
        | ((with_reducible apply Qv.andE); exact rfl; exact rfl; exact and3 (Nat.lt_of_le_of_lt (hdv _) (by omega)))
        | ((with_reducible apply Qv.indexBlk (b := b)); exact rfl; exact rfl; (constructor <;> omega); exact rfl)))
      | ((with_reducible apply J.makeSlice (len := size)); exact rfl; exact rfl; exact rfl; exact rfl; exact rfl; omega; decide; intro _)
      | ((with_reducible apply J.store1); exact rfl; exact rfl; exact rfl; (repeat (first | with_reducible exact Upd.here | with_reducible apply Upd.there)); exact tab_put (k := k) (by simp) hk; (rw [tab_length]; omega))
      | ((with_reducible apply J.iterB (backward_int _ _ _)); exact rfl; exact rfl; intro _)
      | refine J.one ?_
      | refine J.loudS ?_
      | (refine J.loudQ ?_; intro _ _)
      | (refine J.loudB ?_; intro _)
      | (with_reducible apply J.list)
      | ((with_reducible apply J.gsplit); exact rfl; exact rfl)
      | ((with_reducible first | apply J.cond | apply JC.cond); exact rfl)
      | (intro h; exfalso; fail)
      | (intro h; (try simp only [decide_eq_true_eq, decide_eq_false_iff_not, beq_iff_eq, beq_eq_false_iff_ne, Bool.not_eq_true', Bool.not_eq_false', bne_iff_ne, bne_eq_false_iff_eq, ne_eq, ge_iff_le, gt_iff_lt] at h))
      | (with_reducible apply J.gave')
      | ((with_reducible apply J.kept'); rotate_left; (repeat (first | (with_reducible exact Outs.nil) | ((with_reducible apply Outs.cons); (repeat (first | with_reducible exact Out.here | with_reducible apply Out.there))))))
    all_goals
      first
      | (exact J.freshBlk (by (repeat (first | with_reducible exact Out.here | with_reducible apply Out.there))) (by rw [sp_tab]; refine tab_same fun j hj => ?_; unfold dpart; rw [if_pos (Nat.zero_le _)]) (by rw [ncs_length, sp_length]; omega) (by simp only [maxLen]; omega))
      | (trace_state; fail)
  case hstop =>
    intro D
    exact J.absurd_ (.there .here)
/-- A text's digits. -/
def dg1 (l : List UInt8) : List Nat := sp (be ((sha l).take 3)) 12
def dgs (l : List UInt8) : List Nat := dg1 l ++ sp (36 - (dg1 l).sum) 3
theorem dgs_length (l : List UInt8) : (dgs l).length = 15 := by simp [dgs, dg1, sp_length]
theorem dgs_le {l : List UInt8} {x : Nat} (h : x ∈ dgs l) : x ≤ 3 := by
  simp only [dgs, List.mem_append] at h
  rcases h with h | h <;> exact sp_le h
theorem be3 (l : List UInt8) : be ((sha l).take 3) < 16777216 := by
  have h := be_lt ((sha l).take 3)
  rw [List.length_take, sha_length] at h
  exact h
theorem digits_ (ao : Option Addr) (n cap : Nat) (l : List UInt8) (w : World) (hw : Rd w ao (bcs l) ∧ n = l.length ∧ l.length ≤ 1099511627776) : CSpec Tryz.prog 175 [.slice ao n cap] [] w (Fresh 3 1 15 (ncs (dgs l)) []) := by
  obtain ⟨hr, rfl, hl⟩ := hw
  have hb := be3 l
  refine spec_own0 Tryz.func175 rfl Tryz.ntmps175 rfl (l0 := [(0, .slice ao l.length cap)]) rfl ?_
  repeat' first
    | (refine J.qv ?_; (with_reducible apply exq); focus (first
      | ((with_reducible apply Qv.sliceTo (k := 3)); exact rfl; exact rfl; exact rfl; omega)))
    | ((with_reducible apply J.freshR (sum_ _ _ _ l)); exact rfl; exact rfl; (focus ((refine RH.and (RH.old hr) (RH.of ⟨rfl, hl⟩)))); intro _ _)
    | ((with_reducible apply J.givesR (int_ _ _ _ ((sha l).take 3))); exact rfl; exact rfl; focus ((refine RH.and (RH.take (RH.row (by (repeat (first | with_reducible exact In.here | with_reducible apply In.there))))) (RH.of ⟨?_, ?_, ?_⟩) <;> first | omega | (rw [List.length_take, sha_length]; omega))))
    | ((with_reducible apply J.freshR (spread_ (be ((sha l).take 3)) 12)); exact rfl; exact rfl; (focus ((refine RH.of ⟨?_, ?_⟩ <;> omega))); intro _ _)
    | refine J.one ?_
    | refine J.loudS ?_
    | (refine J.loudQ ?_; intro _ _)
    | (refine J.loudB ?_; intro _)
    | (with_reducible apply J.list)
    | ((with_reducible apply J.gsplit); exact rfl; exact rfl)
    | ((with_reducible first | apply J.cond | apply JC.cond); exact rfl)
    | (intro h; exfalso; fail)
    | (intro h; (try simp only [decide_eq_true_eq, decide_eq_false_iff_not, beq_iff_eq, beq_eq_false_iff_ne, Bool.not_eq_true', Bool.not_eq_false', bne_iff_ne, bne_eq_false_iff_eq, ne_eq, ge_iff_le, gt_iff_lt] at h))
    | (with_reducible apply J.gave')
    | ((with_reducible apply J.kept'); rotate_left; (repeat (first | (with_reducible exact Outs.nil) | ((with_reducible apply Outs.cons); (repeat (first | with_reducible exact Out.here | with_reducible apply Out.there))))))
  rename_i q hq
  rw [show sp (be ((sha l).take 3)) 12 = dg1 l from rfl]
  apply J.loopI (σ := Nat) (I := fun s => (s ≤ 12)) (L := fun s => [(3, .slice q.1 12 q.2), (12, .slice q.1 12 q.2), (13, .int .i64 12), (14, .int .i64 (s : Int)), (4, .int .i64 ((36 - ((dg1 l).take s).sum : Nat) : Int))]) (HH := fun s => [row (.slice q.1 12 q.2) 3 1 12 (ncs (dg1 l))]) (m := fun s => 12 - s) (s0 := 0)
  · ((try dsimp only); (exact Nat.zero_le _))
  · ((try dsimp only); repeat (first | exact sub.nil _ | (refine sub.consE rfl ?_ ?_; (first | with_reducible rfl | (fail) | rfl))))
  · ((try dsimp only); (repeat (first | (with_reducible exact Outs.nil) | ((with_reducible apply Outs.cons); (repeat (first | with_reducible exact Out.here | with_reducible apply Out.there))))))
  rintro i hI
  try dsimp only at hI ⊢
  have hs0 : ((dg1 l).take i).sum ≤ 36 := sum_take_le
  have hs1 : ((dg1 l).take (i + 1)).sum ≤ 36 := sum_take_le
  have hln : (dg1 l).length = 12 := sp_length _ _
  have hx2 : ∀ x, (dg1 l)[i]? = some x → ((dg1 l).take (i + 1)).sum = ((dg1 l).take i).sum + x := fun x h => sum_take h
  obtain ⟨x, hx⟩ : ∃ x, i < 12 → (dg1 l)[i]? = some x := by
    by_cases h : i < 12
    · exact ⟨(dg1 l)[i]'(by omega), fun _ => List.getElem?_eq_getElem _⟩
    · exact ⟨0, fun h' => absurd h' h⟩
  rcases Nat.lt_or_ge i 12 with hlt | hge
  · have hx := hx hlt
    have hx2 := hx2 x hx
    have hx3 : x ≤ 3 := sp_le (List.mem_of_getElem? hx)
    repeat' first
      | (refine J.qv ?_; (with_reducible apply exq); focus (first
        | ((with_reducible apply Qv.sub); exact rfl; exact rfl; exact wr64 (z := ((36 - ((dg1 l).take (i + 1)).sum : Nat) : Int)) (by omega) (by omega) (by omega))))
      | (refine J.qr ?_; (with_reducible apply exq); focus (first
        | ((with_reducible apply Qr.indexRd (k := i) (C := ncs (dg1 l))); exact rfl; exact rfl; exact rfl; (first | omega | (rw [ncs_length, dg1, sp_length]; omega)); exact RH.row (by (repeat (first | with_reducible exact In.here | with_reducible apply In.there))); (first | omega | (rw [ncs_length, dg1, sp_length]; omega)))
        | ((with_reducible apply Qr.rd1 (C := ncs (dg1 l))); exact rfl; exact RH.row (by (repeat (first | with_reducible exact In.here | with_reducible apply In.there))); (rw [Nat.mul_one]; exact ncs_get hx))))
      | ((with_reducible apply J.appendR (news := ncs (sp (36 - ((dg1 l).take 12).sum) 3))); exact rfl; exact rfl; (repeat (first | with_reducible exact Out.here | with_reducible apply Out.there)); exact rfl; exact RH.row (by (repeat (first | with_reducible exact In.here | with_reducible apply In.there))); (rw [ncs_length, sp_length]); exact ncs_ones _; exact rfl; exact rfl; (simp only [maxLen]; omega); omega; intro _ _)
      | ((with_reducible apply J.freshR (spread_ (36 - ((dg1 l).take 12).sum) 3)); exact rfl; exact rfl; (focus ((refine RH.of ⟨?_, ?_⟩ <;> omega))); intro _ _)
      | refine J.one ?_
      | refine J.loudS ?_
      | (refine J.loudQ ?_; intro _ _)
      | (refine J.loudB ?_; intro _)
      | (with_reducible apply J.list)
      | ((with_reducible apply J.gsplit); exact rfl; exact rfl)
      | ((with_reducible first | apply J.cond | apply JC.cond); exact rfl)
      | (intro h; exfalso; (first | (simp at h; done) | (simp at h; omega) | omega))
      | (intro h; (try simp only [decide_eq_true_eq, decide_eq_false_iff_not, beq_iff_eq, beq_eq_false_iff_ne, Bool.not_eq_true', Bool.not_eq_false', bne_iff_ne, bne_eq_false_iff_eq, ne_eq, ge_iff_le, gt_iff_lt] at h))
      | (with_reducible apply J.gave')
      | ((with_reducible apply J.kept'); rotate_left; (repeat (first | (with_reducible exact Outs.nil) | ((with_reducible apply Outs.cons); (repeat (first | with_reducible exact Out.here | with_reducible apply Out.there))))))
    all_goals
      first
      | (apply J.againI (s := i) (s' := (i + 1)); (focus (omega)); (focus ((try dsimp only); (show i + 1 ≤ 12; omega))); (focus (((try dsimp only); repeat (first | exact sub.nil _ | (refine sub.consE rfl ?_ ?_; (first | with_reducible rfl | ((focus (congr 1; omega))) | rfl)))))); ((try dsimp only); (repeat (first | (with_reducible exact Outs.nil) | ((with_reducible apply Outs.cons); (repeat (first | with_reducible exact Out.here | with_reducible apply Out.there)))))))
      | (trace_state; fail)
  · obtain rfl : i = 12 := by omega
    repeat' first
      | (refine J.qv ?_; (with_reducible apply exq); focus (first
        | ((with_reducible apply Qv.sub); exact rfl; exact rfl; exact wr64 (z := ((36 - ((dg1 l).take (i + 1)).sum : Nat) : Int)) (by omega) (by omega) (by omega))))
      | (refine J.qr ?_; (with_reducible apply exq); focus (first
        | ((with_reducible apply Qr.indexRd (k := i) (C := ncs (dg1 l))); exact rfl; exact rfl; exact rfl; (first | omega | (rw [ncs_length, dg1, sp_length]; omega)); exact RH.row (by (repeat (first | with_reducible exact In.here | with_reducible apply In.there))); (first | omega | (rw [ncs_length, dg1, sp_length]; omega)))
        | ((with_reducible apply Qr.rd1 (C := ncs (dg1 l))); exact rfl; exact RH.row (by (repeat (first | with_reducible exact In.here | with_reducible apply In.there))); (rw [Nat.mul_one]; exact ncs_get hx))))
      | ((with_reducible apply J.appendR (news := ncs (sp (36 - ((dg1 l).take 12).sum) 3))); exact rfl; exact rfl; (repeat (first | with_reducible exact Out.here | with_reducible apply Out.there)); exact rfl; exact RH.row (by (repeat (first | with_reducible exact In.here | with_reducible apply In.there))); (rw [ncs_length, sp_length]); exact ncs_ones _; exact rfl; exact rfl; (simp only [maxLen]; omega); omega; intro _ _)
      | ((with_reducible apply J.freshR (spread_ (36 - ((dg1 l).take 12).sum) 3)); exact rfl; exact rfl; (focus ((refine RH.of ⟨?_, ?_⟩ <;> omega))); intro _ _)
      | refine J.one ?_
      | refine J.loudS ?_
      | (refine J.loudQ ?_; intro _ _)
      | (refine J.loudB ?_; intro _)
      | (with_reducible apply J.list)
      | ((with_reducible apply J.gsplit); exact rfl; exact rfl)
      | ((with_reducible first | apply J.cond | apply JC.cond); exact rfl)
      | (intro h; exfalso; (first | (simp at h; done) | (simp at h; omega) | omega))
      | (intro h; (try simp only [decide_eq_true_eq, decide_eq_false_iff_not, beq_iff_eq, beq_eq_false_iff_ne, Bool.not_eq_true', Bool.not_eq_false', bne_iff_ne, bne_eq_false_iff_eq, ne_eq, ge_iff_le, gt_iff_lt] at h))
      | (with_reducible apply J.gave')
      | ((with_reducible apply J.kept'); rotate_left; (repeat (first | (with_reducible exact Outs.nil) | ((with_reducible apply Outs.cons); (repeat (first | with_reducible exact Out.here | with_reducible apply Out.there))))))
    all_goals
      first
      | (have e : (dg1 l).take 12 = dg1 l := List.take_of_length_le (by omega)
         rw [e]
         ((with_reducible apply J.freshRow); (repeat (first | with_reducible exact Out.here | with_reducible apply Out.there)); exact rfl; exact rfl; exact (ncs_append _ _).symm))
      | (trace_state; fail)
/-- So many steps. -/
def wk (s : List UInt8) : Nat → List UInt8
  | 0 => s
  | k + 1 => short (wk s k)
theorem wk_le {s : List UInt8} {m : Nat} (h : s.length ≤ m) (h8 : 8 ≤ m) : ∀ k, (wk s k).length ≤ m
  | 0 => h
  | k + 1 => by rw [wk, short_length]; exact h8
theorem clamp3 {k : Nat} (h : k ≤ 3) : imin (imax (k : Int) 0) 3 = (k : Int) := by unfold imin imax; split <;> split <;> omega
theorem walk_ (s : List UInt8) (k : Nat) (w : World) (hw : k ≤ 3 ∧ s.length ≤ 1099511627776) : CSpec Tryz.prog 179 [str s, .int .i64 (k : Int)] [] w (Gives (str (wk s k))) := by
  obtain ⟨h3, hl⟩ := hw
  refine spec_own0 Tryz.func179 rfl Tryz.ntmps179 rfl (l0 := [(0, str s), (1, .int .i64 (k : Int))]) rfl ?_
  repeat' first
    | ((with_reducible apply J.givesR (short_ _ _ _ [wk s i])); exact rfl; exact rfl; focus (exact RH.and (RH.sblk (by (repeat (first | with_reducible exact In.here | with_reducible apply In.there))) (RH.lcons (RH.bbat (by (repeat (first | with_reducible exact In.here | with_reducible apply In.there)))) RH.lnil)) (RH.of ⟨rfl, by simp; omega, by simp⟩)))
    | refine J.one ?_
    | refine J.loudS ?_
    | (refine J.loudQ ?_; intro _ _)
    | (refine J.loudB ?_; intro _)
    | (with_reducible apply J.list)
    | ((with_reducible apply J.gsplit); exact rfl; exact rfl)
    | ((with_reducible first | apply J.cond | apply JC.cond); exact rfl)
    | (intro h; exfalso; (first | (simp at h; done) | (simp at h; omega) | omega))
    | (intro h; (try simp only [decide_eq_true_eq, decide_eq_false_iff_not, beq_iff_eq, beq_eq_false_iff_ne, Bool.not_eq_true', Bool.not_eq_false', bne_iff_ne, bne_eq_false_iff_eq, ne_eq, ge_iff_le, gt_iff_lt] at h))
    | (with_reducible apply J.gave')
    | ((with_reducible apply J.kept'); rotate_left; (repeat (first | (with_reducible exact Outs.nil) | ((with_reducible apply Outs.cons); (repeat (first | with_reducible exact Out.here | with_reducible apply Out.there))))))
  rw [clamp3 h3]
  apply J.loopI (σ := Nat) (I := fun q => (q ≤ k)) (L := fun q => [(0, str (wk s q)), (7, .int .i64 (k : Int)), (8, .int .i64 (q : Int))]) (HH := fun q => []) (m := fun q => k - q) (s0 := 0)
  · ((try dsimp only); (exact Nat.zero_le _))
  · ((try dsimp only); repeat (first | exact sub.nil _ | (refine sub.consE rfl ?_ ?_; (first | with_reducible rfl | (fail) | rfl))))
  · ((try dsimp only); (repeat (first | (with_reducible exact Outs.nil) | ((with_reducible apply Outs.cons); (repeat (first | with_reducible exact Out.here | with_reducible apply Out.there))))))
  rintro i hI
  try dsimp only at hI ⊢
  have hwl := wk_le hl (by omega) i
  repeat' first
    | ((with_reducible apply J.givesR (short_ _ _ _ [wk s i])); exact rfl; exact rfl; focus (exact RH.and (RH.sblk (by (repeat (first | with_reducible exact In.here | with_reducible apply In.there))) (RH.lcons (RH.bbat (by (repeat (first | with_reducible exact In.here | with_reducible apply In.there)))) RH.lnil)) (RH.of ⟨rfl, by simp; omega, by simp⟩)))
    | refine J.one ?_
    | refine J.loudS ?_
    | (refine J.loudQ ?_; intro _ _)
    | (refine J.loudB ?_; intro _)
    | (with_reducible apply J.list)
    | ((with_reducible apply J.gsplit); exact rfl; exact rfl)
    | ((with_reducible first | apply J.cond | apply JC.cond); exact rfl)
    | (intro h; exfalso; (first | (simp at h; done) | (simp at h; omega) | omega))
    | (intro h; (try simp only [decide_eq_true_eq, decide_eq_false_iff_not, beq_iff_eq, beq_eq_false_iff_ne, Bool.not_eq_true', Bool.not_eq_false', bne_iff_ne, bne_eq_false_iff_eq, ne_eq, ge_iff_le, gt_iff_lt] at h))
    | (with_reducible apply J.gave')
    | ((with_reducible apply J.kept'); rotate_left; (repeat (first | (with_reducible exact Outs.nil) | ((with_reducible apply Outs.cons); (repeat (first | with_reducible exact Out.here | with_reducible apply Out.there))))))
  all_goals
    first
    | (have e0 : i = k := by omega
       subst e0
       rfl)
    | (apply J.againI (s := i) (s' := (i + 1)); (focus (omega)); (focus ((try dsimp only); omega)); (focus (((try dsimp only); repeat (first | exact sub.nil _ | (refine sub.consE rfl ?_ ?_; (first | with_reducible rfl | ((focus (first | (congr 1; omega) | (simp only [List.flatten_cons, List.flatten_nil, List.append_nil]; rfl)))) | rfl)))))); ((try dsimp only); (repeat (first | (with_reducible exact Outs.nil) | ((with_reducible apply Outs.cons); (repeat (first | with_reducible exact Out.here | with_reducible apply Out.there)))))))
    | (trace_state; fail)
section
variable {c : Cx} {l : TL} {H : List Asrt}
theorem J.batPack {v : Value} {bs : List UInt8} {V : List Value} {L : List (List UInt8)} {H1 H2 : List Asrt} {G : Act → World → Prop} (h1 : Out (bAt v bs) H H1) (h2 : Out (sepA (bsA V L)) H1 H2) (hl : V.length = L.length)
    (K : J c l (sepA (bsA (V ++ [v]) (L ++ [bs])) :: H2) G) : J c l H G := J.mk fun a w s => by
  have s1 := (s.2.2.perm h1.perm).perm (h2.perm.cons _)
  obtain ⟨fp, ⟨f, g, rfl, ha, f', g', rfl, hb, hg⟩, hnd, hi, hf⟩ := s1
  refine K.out a w ⟨s.1, s.2.1, (f' ++ f) ++ g', ⟨f' ++ f, g', rfl, ?_, hg⟩, ?_, ?_, hf⟩
  · have key : ∀ {V : List Value} {L : List (List UInt8)} {f'}, V.length = L.length → Holds (hp w) (bsA V L) f' → Holds (hp w) (bsA (V ++ [v]) (L ++ [bs])) (f' ++ f) := by
      intro V
      induction V with
      | nil =>
        intro L f' hl hh
        cases L with
        | nil =>
          obtain rfl : f' = [] := hh
          exact ⟨f, [], by simp, ha, rfl⟩
        | cons _ _ => simp at hl
      | cons u V ih =>
        intro L f' hl hh
        cases L with
        | nil => simp at hl
        | cons m L =>
          obtain ⟨f1, f2, rfl, h1, h2⟩ := hh
          exact ⟨f1, f2 ++ f, by simp, h1, ih (by simpa using hl) h2⟩
    exact key hl hb
  · have p : (f ++ (f' ++ g')).Perm ((f' ++ f) ++ g') := by
      rw [← List.append_assoc]
      exact List.perm_append_comm.append_right g'
    exact p.nodup_iff.1 hnd
  · intro i hi'
    refine hi i ?_
    simp only [List.mem_append] at hi' ⊢
    rcases hi' with (h | h) | h
    · exact .inr (.inl h)
    · exact .inl h
    · exact .inr (.inr h)
end
/-- Texts as cells. -/
def scs (l : List (List UInt8)) : List Value := l.map str
theorem scs_length (l : List (List UInt8)) : (scs l).length = l.length := by simp [scs]
theorem scs_append (l m : List (List UInt8)) : scs (l ++ m) = scs l ++ scs m := by simp [scs]
theorem scs_get {l : List (List UInt8)} {i : Nat} {x : List UInt8} (h : l[i]? = some x) : (scs l)[i]? = some (str x) := by simp [scs, h]
theorem scs_ones (l : List (List UInt8)) : (scs l).all (·.oneCell') = true := by simp [scs, Value.oneCell']
/-- Each walked the rest. -/
def closedL (P : List (List UInt8)) (F : List Nat) : List (List UInt8) := List.zipWith (fun p d => wk p (3 - d)) P F
theorem closedL_get {P : List (List UInt8)} {F : List Nat} {i d : Nat} {p : List UInt8} (h1 : P[i]? = some p) (h2 : F[i]? = some d) : (closedL P F)[i]? = some (wk p (3 - d)) := by
  unfold closedL
  rw [List.getElem?_zipWith, h1, h2]
theorem closedL_length {P : List (List UInt8)} {F : List Nat} (h : F.length = P.length) : (closedL P F).length = P.length := by simp [closedL, h]
theorem take_snoc {α : Type} {L : List α} {i : Nat} {x : α} (h : L[i]? = some x) : L.take (i + 1) = L.take i ++ [x] := by
  rw [List.take_add_one, h]
  rfl
theorem flat_max {m : Nat} : ∀ {L : List (List UInt8)}, (∀ x, x ∈ L → x.length ≤ m) → L.flatten.length ≤ m * L.length
  | [], _ => by simp
  | a :: L, h => by
    have h1 := flat_max (L := L) fun x hx => h x (by simp [hx])
    have h2 := h a (by simp)
    simp only [List.flatten_cons, List.length_append, List.length_cons, Nat.mul_add, Nat.mul_one]
    omega
theorem closedL_le {P : List (List UInt8)} {F : List Nat} (h : ∀ p, p ∈ P → p.length ≤ 8) : ∀ x, x ∈ closedL P F → x.length ≤ 8 := by
  intro x hx
  unfold closedL at hx
  obtain ⟨i, hi, e⟩ := List.getElem_of_mem hx
  rw [List.getElem_zipWith] at e
  subst e
  exact wk_le (h _ (List.getElem_mem _)) (Nat.le_refl _) _
theorem closed_ (ao : Option Addr) (n cap : Nat) (P : List (List UInt8)) (aof : Option Addr) (m capf : Nat) (F : List Nat) (w : World) (hw : (Rd w ao (scs P) ∧ Rd w aof (ncs F)) ∧ n = P.length ∧ m = F.length ∧ F.length = P.length ∧ (∀ x, x ∈ F → x ≤ 3) ∧ (∀ p, p ∈ P → p.length ≤ 8) ∧ P.length ≤ 1000) : CSpec Tryz.prog 174 [.slice ao n cap, .slice aof m capf] [] w (Gives (str (short (closedL P F).flatten))) := by
  obtain ⟨⟨hP, hF⟩, rfl, rfl, hl, h3, h8, hm⟩ := hw
  have hcl := closedL_length hl
  have hfm := flat_max (closedL_le (F := F) h8)
  refine spec_own0 Tryz.func174 rfl Tryz.ntmps174 rfl (l0 := [(0, .slice ao P.length cap), (1, .slice aof F.length capf)]) rfl ?_
  repeat' first
    | refine J.one ?_
    | refine J.loudS ?_
    | (refine J.loudQ ?_; intro _ _)
    | (refine J.loudB ?_; intro _)
    | (with_reducible apply J.list)
    | ((with_reducible apply J.gsplit); exact rfl; exact rfl)
    | ((with_reducible first | apply J.cond | apply JC.cond); exact rfl)
    | (intro h; exfalso; fail)
    | (intro h; (try simp only [decide_eq_true_eq, decide_eq_false_iff_not, beq_iff_eq, beq_eq_false_iff_ne, Bool.not_eq_true', Bool.not_eq_false', bne_iff_ne, bne_eq_false_iff_eq, ne_eq, ge_iff_le, gt_iff_lt] at h))
    | (with_reducible apply J.gave')
    | ((with_reducible apply J.kept'); rotate_left; (repeat (first | (with_reducible exact Outs.nil) | ((with_reducible apply Outs.cons); (repeat (first | with_reducible exact Out.here | with_reducible apply Out.there))))))
  refine J.nilRow 93 1 ?_
  refine J.packNil ?_
  rw [show ([] : List (List UInt8)) = (closedL P F).take 0 from rfl]
  apply J.loopI (σ := (Nat × (Option Addr × Nat) × List Value)) (I := fun s => (s.1 ≤ P.length ∧ s.2.2.length = s.1)) (L := fun s => [(1, .slice aof F.length capf), (8, .slice ao P.length cap), (9, .int .i64 (P.length : Int)), (10, .int .i64 (s.1 : Int)), (5, .slice s.2.1.1 s.1 s.2.1.2)]) (HH := fun s => [row (.slice s.2.1.1 s.1 s.2.1.2) 93 1 s.1 s.2.2, sepA (bsA s.2.2 ((closedL P F).take s.1))]) (m := fun s => P.length - s.1) (s0 := (0, (none, 0), []))
  · ((try dsimp only); (exact ⟨Nat.zero_le _, rfl⟩))
  · ((try dsimp only); repeat (first | exact sub.nil _ | (refine sub.consE rfl ?_ ?_; (first | with_reducible rfl | (fail) | rfl))))
  · ((try dsimp only); (repeat (first | (with_reducible exact Outs.nil) | ((with_reducible apply Outs.cons); (repeat (first | with_reducible exact Out.here | with_reducible apply Out.there))))))
  rintro ⟨i, q, V⟩ ⟨hI, hV⟩
  try dsimp only at *
  rcases Nat.lt_or_ge i P.length with hlt | hge
  · obtain ⟨p, hp⟩ : ∃ p, P[i]? = some p := ⟨_, List.getElem?_eq_getElem hlt⟩
    obtain ⟨d, hd⟩ : ∃ d, F[i]? = some d := ⟨_, List.getElem?_eq_getElem (by omega)⟩
    have hd3 := h3 d (List.mem_of_getElem? hd)
    have hp8 := h8 p (List.mem_of_getElem? hp)
    have hts := take_snoc (closedL_get hp hd)
    have htl : ((closedL P F).take i).length = i := by rw [List.length_take]; omega
    repeat' first
      | (refine J.qv ?_; (with_reducible apply exq); focus (first
        | ((with_reducible apply Qv.sub); exact rfl; exact rfl; exact wr64 (z := ((3 - d : Nat) : Int)) (by omega) (by omega) (by omega))))
      | (refine J.qr ?_; (with_reducible apply exq); focus (first
        | ((with_reducible apply Qr.indexRd (k := i) (C := scs P)); exact rfl; exact rfl; exact rfl; (first | omega | (rw [scs_length]; omega)); exact RH.old hP; (first | omega | (rw [scs_length]; omega)))
        | ((with_reducible apply Qr.rd1 (C := scs P)); exact rfl; exact RH.old hP; (rw [Nat.mul_one]; exact scs_get hp))
        | ((with_reducible apply Qr.indexRd (k := i) (C := ncs F)); exact rfl; exact rfl; exact rfl; (first | omega | (rw [ncs_length]; omega)); exact RH.old hF; (first | omega | (rw [ncs_length]; omega)))
        | ((with_reducible apply Qr.rd1 (C := ncs F)); exact rfl; exact RH.old hF; (rw [Nat.mul_one]; exact ncs_get hd))))
      | ((with_reducible apply J.appendR (news := [_])); exact rfl; exact rfl; (repeat (first | with_reducible exact Out.here | with_reducible apply Out.there)); exact rfl; exact RH.blk0 (by (repeat (first | with_reducible exact In.here | with_reducible apply In.there))); exact rfl; exact rfl; exact rfl; exact rfl; (simp only [maxLen]; omega); omega; intro _ _)
      | ((with_reducible apply J.givesR (walk_ p (3 - d))); exact rfl; exact rfl; focus (refine RH.of ⟨?_, ?_⟩ <;> omega))
      | refine J.one ?_
      | refine J.loudS ?_
      | (refine J.loudQ ?_; intro _ _)
      | (refine J.loudB ?_; intro _)
      | (with_reducible apply J.list)
      | ((with_reducible apply J.gsplit); exact rfl; exact rfl)
      | ((with_reducible first | apply J.cond | apply JC.cond); exact rfl)
      | (intro h; exfalso; (first | (simp at h; done) | (simp at h; omega) | omega))
      | (intro h; (try simp only [decide_eq_true_eq, decide_eq_false_iff_not, beq_iff_eq, beq_eq_false_iff_ne, Bool.not_eq_true', Bool.not_eq_false', bne_iff_ne, bne_eq_false_iff_eq, ne_eq, ge_iff_le, gt_iff_lt] at h))
      | (with_reducible apply J.gave')
      | ((with_reducible apply J.kept'); rotate_left; (repeat (first | (with_reducible exact Outs.nil) | ((with_reducible apply Outs.cons); (repeat (first | with_reducible exact Out.here | with_reducible apply Out.there))))))
    all_goals
      (rename_i q1 _ b q2 _
       apply J.batPack (V := V) (L := (closedL P F).take i)
       · (repeat (first | with_reducible exact Out.here | with_reducible apply Out.there))
       · (repeat (first | with_reducible exact Out.here | with_reducible apply Out.there))
       · omega
       rw [← hts]
       (apply J.againI (s := (i, q, V)) (s' := (i + 1, q2, V ++ [.slice (some ⟨q1.1, 0, none⟩) (wk p (3 - d)).length q1.2])); (focus (omega)); (focus ((try dsimp only); (refine ⟨?_, ?_⟩ <;> first | omega | (simp; omega) | (show i + 1 ≤ P.length; omega)))); (focus (((try dsimp only); repeat (first | exact sub.nil _ | (refine sub.consE rfl ?_ ?_; (first | with_reducible rfl | ((focus (congr 1; omega))) | rfl)))))); ((try dsimp only); (repeat (first | (with_reducible exact Outs.nil) | ((with_reducible apply Outs.cons); (repeat (first | with_reducible exact Out.here | with_reducible apply Out.there))))))))
  · obtain rfl : i = P.length := by omega
    have htk : (closedL P F).take P.length = closedL P F := List.take_of_length_le (by omega)
    rw [htk]
    repeat' first
      | ((with_reducible apply J.givesR (short_ _ _ _ (closedL P F))); exact rfl; exact rfl; (focus (refine RH.and (RH.srow (by (repeat (first | with_reducible exact In.here | with_reducible apply In.there))) (RH.lbs (by (repeat (first | with_reducible exact In.here | with_reducible apply In.there))) ?_)) (RH.of ⟨?_, ?_, ?_⟩) <;> omega)))
      | refine J.one ?_
      | refine J.loudS ?_
      | (refine J.loudQ ?_; intro _ _)
      | (refine J.loudB ?_; intro _)
      | (with_reducible apply J.list)
      | ((with_reducible apply J.gsplit); exact rfl; exact rfl)
      | ((with_reducible first | apply J.cond | apply JC.cond); exact rfl)
      | (intro h; exfalso; (first | (simp at h; done) | (simp at h; omega) | omega))
      | (intro h; (try simp only [decide_eq_true_eq, decide_eq_false_iff_not, beq_iff_eq, beq_eq_false_iff_ne, Bool.not_eq_true', Bool.not_eq_false', bne_iff_ne, bne_eq_false_iff_eq, ne_eq, ge_iff_le, gt_iff_lt] at h))
      | (with_reducible apply J.gave')
      | ((with_reducible apply J.kept'); rotate_left; (repeat (first | (with_reducible exact Outs.nil) | ((with_reducible apply Outs.cons); (repeat (first | with_reducible exact Out.here | with_reducible apply Out.there))))))
    all_goals
      first
      | rfl
      | (trace_state; fail)
/-- Which is the first one; -1: none. -/
def findI (p : Nat → Bool) (N : Nat) : Int := match (List.range N).find? p with | some i => (i : Int) | none => -1
theorem findI_at {p : Nat → Bool} {N i : Nat} (hi : i < N) (hp : p i = true) (h0 : ∀ j, j < i → p j = false) : findI p N = (i : Int) := by
  unfold findI
  have e : (List.range N).find? p = some i := by
    rw [List.find?_range_eq_some]
    exact ⟨hp, by simp [hi], fun j hj => by simp [h0 j hj]⟩
  rw [e]
theorem findI_none {p : Nat → Bool} {N : Nat} (h0 : ∀ j, j < N → p j = false) : findI p N = -1 := by
  unfold findI
  have e : (List.range N).find? p = none := by
    rw [List.find?_eq_none]
    intro j hj
    rw [h0 j (by simpa using hj)]
    decide
  rw [e]
theorem findI_lt {p : Nat → Bool} {N : Nat} : findI p N < N := by
  unfold findI
  split
  · rename_i i h
    have := List.mem_of_find?_eq_some h
    simp at this
    omega
  · omega
theorem findI_or {p : Nat → Bool} {N : Nat} : (findI p N = -1 ∧ ∀ j, j < N → p j = false) ∨ ∃ i, i < N ∧ findI p N = (i : Int) ∧ p i = true ∧ ∀ j, j < i → p j = false := by
  by_cases h : ∀ j, j < N → p j = false
  · exact .inl ⟨findI_none h, h⟩
  · right
    have h1 : ∃ j, j < N ∧ p j = true := by
      apply Classical.byContradiction
      intro hn
      apply h
      intro j hj
      cases hb : p j with
      | false => rfl
      | true => exact absurd ⟨j, hj, hb⟩ hn
    have key : ∀ m, (∃ j, j < m ∧ p j = true) → ∃ i, i < m ∧ p i = true ∧ ∀ j, j < i → p j = false := by
      intro m
      induction m with
      | zero => rintro ⟨j, hj, _⟩; omega
      | succ m ih =>
        rintro ⟨j, hj, hpj⟩
        by_cases hm : ∃ j, j < m ∧ p j = true
        · obtain ⟨i, h1, h2, h3⟩ := ih hm
          exact ⟨i, by omega, h2, h3⟩
        · refine ⟨m, by omega, ?_, ?_⟩
          · have : j = m := by
              apply Classical.byContradiction
              intro hne
              exact hm ⟨j, by omega, hpj⟩
            exact this ▸ hpj
          · intro k hk
            cases hb : p k with
            | false => rfl
            | true => exact absurd ⟨k, hk, hb⟩ hm
    obtain ⟨i, h2, h3, h4⟩ := key N h1
    exact ⟨i, h2, findI_at h2 h3 h4, h3, h4⟩
theorem idx_string (ao : Option Addr) (n cap : Nat) (C : List Value) (N fb : Nat) (cs : List Value) (x : Nat → Value) (p : Nat → Bool) [Eng.Enters Tryz.prog fb] (w : World) (hw : Rd w ao C ∧ n = N ∧ C.length = N ∧ N ≤ maxLen ∧ (∀ i, i < N → C[i]? = some (x i)) ∧ ∀ i, i < N → ∀ w2, Fr w [] w2 → CSpec Tryz.prog fb (x i :: cs) [] w2 (Gives (.bool (p i)))) : CSpec Tryz.prog 178 [.slice ao n cap, fnv fb cs] [] w (Gives (.int .i64 (findI p N))) := by
  obtain ⟨hr, rfl, hCl, hm, hC, hp⟩ := hw
  refine spec_own0 Tryz.func178 rfl Tryz.ntmps178 rfl (l0 := [(0, .slice ao n cap), (1, fnv fb cs)]) rfl ?_
  repeat' first
    | refine J.one ?_
    | refine J.loudS ?_
    | (refine J.loudQ ?_; intro _ _)
    | (refine J.loudB ?_; intro _)
    | (with_reducible apply J.list)
    | ((with_reducible apply J.gsplit); exact rfl; exact rfl)
    | ((with_reducible first | apply J.cond | apply JC.cond); exact rfl)
    | (intro h; exfalso; fail)
    | (intro h; (try simp only [decide_eq_true_eq, decide_eq_false_iff_not, beq_iff_eq, beq_eq_false_iff_ne, Bool.not_eq_true', Bool.not_eq_false', bne_iff_ne, bne_eq_false_iff_eq, ne_eq, ge_iff_le, gt_iff_lt] at h))
    | (with_reducible apply J.gave')
    | ((with_reducible apply J.kept'); rotate_left; (repeat (first | (with_reducible exact Outs.nil) | ((with_reducible apply Outs.cons); (repeat (first | with_reducible exact Out.here | with_reducible apply Out.there))))))
  apply J.loopI (σ := Nat) (I := fun q => (q ≤ n ∧ ∀ j, j < q → p j = false)) (L := fun q => [(0, .slice ao n cap), (1, fnv fb cs), (6, .slice ao n cap), (7, .int .i64 (n : Int)), (8, .int .i64 (q : Int))]) (HH := fun q => []) (m := fun q => n - q) (s0 := 0)
  · ((try dsimp only); (exact ⟨Nat.zero_le _, fun j hj => absurd hj (Nat.not_lt_zero _)⟩))
  · ((try dsimp only); repeat (first | exact sub.nil _ | (refine sub.consE rfl ?_ ?_; (first | with_reducible rfl | (fail) | rfl))))
  · ((try dsimp only); (repeat (first | (with_reducible exact Outs.nil) | ((with_reducible apply Outs.cons); (repeat (first | with_reducible exact Out.here | with_reducible apply Out.there))))))
  rintro i ⟨hI, hno⟩
  try dsimp only at *
  have hm2 := hm
  simp only [maxLen] at hm2
  rcases Nat.lt_or_ge i n with hlt | hge
  · skip
    repeat' first
      | (refine J.qr ?_; (with_reducible apply exq); focus (first
        | ((with_reducible apply Qr.indexRd (k := i) (C := C)); exact rfl; exact rfl; exact rfl; omega; exact RH.old hr; omega)
        | ((with_reducible apply Qr.rd1 (C := C)); exact rfl; exact RH.old hr; (rw [Nat.mul_one]; exact hC i hlt))))
      | ((with_reducible apply J.callV (f := fb) (cs := cs)); exact rfl; exact rfl; exact rfl; exact fun w2 s2 => hp i hlt w2 s2.fr)
      | refine J.one ?_
      | refine J.loudS ?_
      | (refine J.loudQ ?_; intro _ _)
      | (refine J.loudB ?_; intro _)
      | (with_reducible apply J.list)
      | ((with_reducible apply J.gsplit); exact rfl; exact rfl)
      | ((with_reducible first | apply J.cond | apply JC.cond); exact rfl)
      | (intro h; exfalso; (first | (simp at h; done) | (simp at h; omega) | omega))
      | (intro h; (try simp only [decide_eq_true_eq, decide_eq_false_iff_not, beq_iff_eq, beq_eq_false_iff_ne, Bool.not_eq_true', Bool.not_eq_false', bne_iff_ne, bne_eq_false_iff_eq, ne_eq, ge_iff_le, gt_iff_lt] at h))
      | (with_reducible apply J.gave')
      | ((with_reducible apply J.kept'); rotate_left; (repeat (first | (with_reducible exact Outs.nil) | ((with_reducible apply Outs.cons); (repeat (first | with_reducible exact Out.here | with_reducible apply Out.there))))))
    all_goals
      first
      | (simp only [retv]; rw [findI_at hlt (by assumption) hno]; done)
      | (apply J.againI (s := i) (s' := (i + 1)); (focus (omega)); (focus ((try dsimp only); exact ⟨by omega, fun j hj => (Nat.lt_or_ge j i).elim (hno j) fun h9 => (show j = i from Nat.le_antisymm (Nat.le_of_lt_succ hj) h9).symm ▸ h⟩)); (focus (((try dsimp only); repeat (first | exact sub.nil _ | (refine sub.consE rfl ?_ ?_; (first | with_reducible rfl | ((focus (congr 1; omega))) | rfl)))))); ((try dsimp only); (repeat (first | (with_reducible exact Outs.nil) | ((with_reducible apply Outs.cons); (repeat (first | with_reducible exact Out.here | with_reducible apply Out.there)))))))
      | (trace_state; fail)
  · obtain rfl : i = n := by omega
    repeat' first
      | (refine J.qr ?_; (with_reducible apply exq); focus (first
        | ((with_reducible apply Qr.indexRd (k := i) (C := C)); exact rfl; exact rfl; exact rfl; omega; exact RH.old hr; omega)
        | ((with_reducible apply Qr.rd1 (C := C)); exact rfl; exact RH.old hr; (rw [Nat.mul_one]; exact hC i hlt))))
      | ((with_reducible apply J.callV (f := fb) (cs := cs)); exact rfl; exact rfl; exact rfl; exact fun w2 s2 => hp i hlt w2 s2.fr)
      | refine J.one ?_
      | refine J.loudS ?_
      | (refine J.loudQ ?_; intro _ _)
      | (refine J.loudB ?_; intro _)
      | (with_reducible apply J.list)
      | ((with_reducible apply J.gsplit); exact rfl; exact rfl)
      | ((with_reducible first | apply J.cond | apply JC.cond); exact rfl)
      | (intro h; exfalso; (first | (simp at h; done) | (simp at h; omega) | omega))
      | (intro h; (try simp only [decide_eq_true_eq, decide_eq_false_iff_not, beq_iff_eq, beq_eq_false_iff_ne, Bool.not_eq_true', Bool.not_eq_false', bne_iff_ne, bne_eq_false_iff_eq, ne_eq, ge_iff_le, gt_iff_lt] at h))
      | (with_reducible apply J.gave')
      | ((with_reducible apply J.kept'); rotate_left; (repeat (first | (with_reducible exact Outs.nil) | ((with_reducible apply Outs.cons); (repeat (first | with_reducible exact Out.here | with_reducible apply Out.there))))))
    all_goals
      first
      | (simp only [retv]; rw [findI_none hno]; done)
      | (trace_state; fail)
end Go.Proofs.YtljbedladifgmaaGreat.Ots
namespace Go.Proofs.YtljbedladifgmaaGreat.Mss
open Go Go.RowKit Eng
set_option linter.unusedVariables false
set_option maxRecDepth 100000
set_option linter.unusedSimpArgs false
open Sha Iter Hash Bytes Ots Deal
set_option maxHeartbeats 1000000
open Go.Proofs.YtljbedladifgmaaGreat.Hsum
theorem open1 (s : List UInt8) (w : World) : CSpec Tryz.prog 173 [str s] [] w (Gives (.bool ((s.length : Int) != 8))) := by
  refine spec_of Tryz.func173 rfl Tryz.ntmps173 rfl (l0 := [(0, str s)]) rfl ?_
  intro fp
  repeat' first
    | refine J.one ?_
    | refine J.loudS ?_
    | (refine J.loudQ ?_; intro _ _)
    | (refine J.loudB ?_; intro _)
    | (with_reducible apply J.list)
    | ((with_reducible apply J.gsplit); exact rfl; exact rfl)
    | ((with_reducible first | apply J.cond | apply JC.cond); exact rfl)
    | (intro h; exfalso; (first | (simp at h; done) | (simp at h; omega)))
    | (intro h; (try simp only [decide_eq_true_eq, decide_eq_false_iff_not, beq_iff_eq, beq_eq_false_iff_ne, Bool.not_eq_true', Bool.not_eq_false', bne_iff_ne, bne_eq_false_iff_eq, ne_eq, ge_iff_le, gt_iff_lt] at h))
    | (with_reducible apply J.gave')
    | ((with_reducible apply J.kept'); rotate_left; (repeat (first | (with_reducible exact Outs.nil) | ((with_reducible apply Outs.cons); (repeat (first | with_reducible exact Out.here | with_reducible apply Out.there))))))
  all_goals (rfl)
/-- Is one of them of another size? -/
abbrev oddP (P : List (List UInt8)) : Nat → Bool := fun i => ((P.getD i []).length : Int) != 8
theorem oddP_get {P : List (List UInt8)} {i : Nat} (hi : i < P.length) : (scs P)[i]? = some (str (P.getD i [])) := by
  apply scs_get
  rw [List.getD_eq_getElem?_getD, List.getElem?_eq_getElem hi]
  rfl
/-- All are of eight octets. -/
def all8 (P : List (List UInt8)) : Prop := ∀ p, p ∈ P → p.length = 8
theorem all8_of {P : List (List UInt8)} (h : ¬ findI (oddP P) P.length ≥ 0) : all8 P := by
  rcases findI_or (p := oddP P) (N := P.length) with ⟨_, h1⟩ | ⟨i, _, h1, _⟩
  · intro p hp
    obtain ⟨i, hi, e⟩ := List.getElem_of_mem hp
    have h2 := h1 i hi
    simp only [oddP, List.getD_eq_getElem?_getD, List.getElem?_eq_getElem hi, e] at h2
    simp at h2
    omega
  · omega
theorem not_all8 {P : List (List UInt8)} (h : findI (oddP P) P.length ≥ 0) : ¬ all8 P := by
  rcases findI_or (p := oddP P) (N := P.length) with ⟨h1, _⟩ | ⟨i, hi, _, h1, _⟩
  · omega
  · intro hall
    have h2 := hall (P[i]'hi) (List.getElem_mem _)
    simp only [oddP, List.getD_eq_getElem?_getD, List.getElem?_eq_getElem hi] at h1
    simp at h1
    omega
open Classical in
/-- What is opened. -/
noncomputable def openF (T : List UInt8) (P : List (List UInt8)) : List UInt8 := if P.length = 15 ∧ all8 P then short (closedL P (dgs T)).flatten else []
theorem contains_ (ao : Option Addr) (n cap : Nat) (P : List (List UInt8)) (w : World) (hw : Rd w ao (scs P) ∧ n = P.length ∧ P.length ≤ 1000) : CSpec Tryz.prog 172 [.slice ao n cap, fnv 173 []] [] w (Gives (.bool (decide (findI (oddP P) P.length ≥ 0)))) := by
  obtain ⟨hr, rfl, hm⟩ := hw
  refine spec_own0 Tryz.func172 rfl Tryz.ntmps172 rfl (l0 := [(0, .slice ao P.length cap), (1, fnv 173 [])]) rfl ?_
  repeat' first
    | ((with_reducible apply J.givesR (idx_string _ _ _ (scs P) P.length 173 [] (fun i => str (P.getD i [])) (oddP P))); exact rfl; exact rfl; focus (exact fun w2 s2 => ⟨RH.old hr w2 s2, rfl, scs_length P, by simp only [maxLen]; omega, fun i hi => oddP_get hi, fun i hi w3 _ => open1 _ w3⟩))
    | refine J.one ?_
    | refine J.loudS ?_
    | (refine J.loudQ ?_; intro _ _)
    | (refine J.loudB ?_; intro _)
    | (with_reducible apply J.list)
    | ((with_reducible apply J.gsplit); exact rfl; exact rfl)
    | ((with_reducible first | apply J.cond | apply JC.cond); exact rfl)
    | (intro h; exfalso; fail)
    | (intro h; (try simp only [decide_eq_true_eq, decide_eq_false_iff_not, beq_iff_eq, beq_eq_false_iff_ne, Bool.not_eq_true', Bool.not_eq_false', bne_iff_ne, bne_eq_false_iff_eq, ne_eq, ge_iff_le, gt_iff_lt] at h))
    | (with_reducible apply J.gave')
    | ((with_reducible apply J.kept'); rotate_left; (repeat (first | (with_reducible exact Outs.nil) | ((with_reducible apply Outs.cons); (repeat (first | with_reducible exact Out.here | with_reducible apply Out.there))))))
  all_goals (rfl)
theorem open_ (aot : Option Addr) (nt capt : Nat) (T : List UInt8) (ao : Option Addr) (n cap : Nat) (P : List (List UInt8)) (w : World) (hw : (Rd w aot (bcs T) ∧ Rd w ao (scs P)) ∧ nt = T.length ∧ n = P.length ∧ T.length ≤ 1099511627776 ∧ P.length ≤ 1000) : CSpec Tryz.prog 168 [.slice aot nt capt, .slice ao n cap] [] w (Gives (str (openF T P))) := by
  obtain ⟨⟨hT, hP⟩, rfl, rfl, hl, hm⟩ := hw
  have hdl := dgs_length T
  refine spec_own0 Tryz.func168 rfl Tryz.ntmps168 rfl (l0 := [(0, .slice aot T.length capt), (1, .slice ao P.length cap)]) rfl ?_
  repeat' first
    | ((with_reducible apply J.givesR (contains_ _ _ _ P)); exact rfl; exact rfl; focus (exact RH.and (RH.old hP) (RH.of ⟨rfl, hm⟩)))
    | ((with_reducible apply J.freshR (digits_ _ _ _ T)); exact rfl; exact rfl; (focus (exact RH.and (RH.old hT) (RH.of ⟨rfl, hl⟩))); intro _ _)
    | ((with_reducible apply J.givesR (closed_ _ _ _ P _ _ _ (dgs T))); exact rfl; exact rfl; focus (exact RH.and (RH.and (RH.old hP) (RH.row (by (repeat (first | with_reducible exact In.here | with_reducible apply In.there))))) (RH.of ⟨rfl, by omega, by omega, fun x hx => dgs_le hx, fun p hp => Nat.le_of_eq (all8_of (by assumption) p hp), hm⟩)))
    | refine J.one ?_
    | refine J.loudS ?_
    | (refine J.loudQ ?_; intro _ _)
    | (refine J.loudB ?_; intro _)
    | (with_reducible apply J.list)
    | ((with_reducible apply J.gsplit); exact rfl; exact rfl)
    | ((with_reducible first | apply J.cond | apply JC.cond); exact rfl)
    | (intro h; exfalso; (first | (simp at h; done) | (simp at h; omega) | omega))
    | (intro h; (try simp only [decide_eq_true_eq, decide_eq_false_iff_not, beq_iff_eq, beq_eq_false_iff_ne, Bool.not_eq_true', Bool.not_eq_false', bne_iff_ne, bne_eq_false_iff_eq, ne_eq, ge_iff_le, gt_iff_lt] at h))
    | (with_reducible apply J.gave')
    | ((with_reducible apply J.kept'); rotate_left; (repeat (first | (with_reducible exact Outs.nil) | ((with_reducible apply Outs.cons); (repeat (first | with_reducible exact Out.here | with_reducible apply Out.there))))))
  all_goals
    first
    | (have e : openF T P = [] := by unfold openF; exact if_neg (fun hc => absurd hc.1 (by omega))
       rw [e]
       rfl)
    | (have e : openF T P = [] := by unfold openF; exact if_neg (fun hc => not_all8 (by assumption) hc.2)
       rw [e]
       rfl)
    | (have e : openF T P = short (closedL P (dgs T)).flatten := by unfold openF; exact if_pos ⟨by omega, all8_of (by assumption)⟩
       rw [e]
       rfl)
    | (trace_state; fail)
theorem join_ (a b : List UInt8) (w : World) (hw : a.length + b.length ≤ 1099511627776) : CSpec Tryz.prog 171 [str a, str b] [] w (Gives (str (short (a ++ b)))) := by
  refine spec_own0 Tryz.func171 rfl Tryz.ntmps171 rfl (l0 := [(0, str a), (1, str b)]) rfl ?_
  repeat' first
    | ((with_reducible apply J.givesR (short_ _ _ _ [a, b])); exact rfl; exact rfl; focus (exact RH.and (RH.sblk (by (repeat (first | with_reducible exact In.here | with_reducible apply In.there))) (RH.lcons (RH.bbat (by (repeat (first | with_reducible exact In.here | with_reducible apply In.there)))) (RH.lcons (RH.bbat (by (repeat (first | with_reducible exact In.here | with_reducible apply In.there)))) RH.lnil))) (RH.of ⟨rfl, by simp; omega, by simp⟩)))
    | refine J.one ?_
    | refine J.loudS ?_
    | (refine J.loudQ ?_; intro _ _)
    | (refine J.loudB ?_; intro _)
    | (with_reducible apply J.list)
    | ((with_reducible apply J.gsplit); exact rfl; exact rfl)
    | ((with_reducible first | apply J.cond | apply JC.cond); exact rfl)
    | (intro h; exfalso; fail)
    | (intro h; (try simp only [decide_eq_true_eq, decide_eq_false_iff_not, beq_iff_eq, beq_eq_false_iff_ne, Bool.not_eq_true', Bool.not_eq_false', bne_iff_ne, bne_eq_false_iff_eq, ne_eq, ge_iff_le, gt_iff_lt] at h))
    | (with_reducible apply J.gave')
    | ((with_reducible apply J.kept'); rotate_left; (repeat (first | (with_reducible exact Outs.nil) | ((with_reducible apply Outs.cons); (repeat (first | with_reducible exact Out.here | with_reducible apply Out.there))))))
  all_goals ((first | rfl | (simp [retv]; done) | (simp only [retv, List.flatten_cons, List.flatten_nil, List.append_nil]; rfl)))
/-- A step up. -/
def clst (x : List UInt8 × Nat) (p : List UInt8) : List UInt8 × Nat := (if x.2 % 2 = 0 then short (x.1 ++ p) else short (p ++ x.1), x.2 / 2)
def cls (s : List UInt8) (n : Nat) (L : List (List UInt8)) : List UInt8 × Nat := L.foldl clst (s, n)
theorem cls_snoc (s : List UInt8) (n : Nat) (L : List (List UInt8)) (p : List UInt8) : cls s n (L ++ [p]) = clst (cls s n L) p := by simp [cls]
theorem cls_len {m : Nat} (h8 : 8 ≤ m) : ∀ {L : List (List UInt8)} {s : List UInt8} {n : Nat}, s.length ≤ m → (cls s n L).1.length ≤ m
  | [], _, _, h => h
  | p :: L, s, n, h => by
    show (L.foldl clst (clst (s, n) p)).1.length ≤ m
    unfold clst
    refine cls_len h8 (L := L) ?_
    dsimp only
    split <;> (rw [short_length]; exact h8)
theorem cls_num : ∀ {L : List (List UInt8)} {s : List UInt8} {n : Nat}, (cls s n L).2 ≤ n
  | [], _, n => Nat.le_refl _
  | p :: L, s, n => by
    exact Nat.le_trans (cls_num (L := L) (s := if n % 2 = 0 then short (s ++ p) else short (p ++ s)) (n := n / 2)) (Nat.div_le_self _ _)
theorem and1 {m : Nat} (h : m < 9223372036854775808) : andI .i64 (m : Int) 1 = ((m % 2 : Nat) : Int) := and64_low h 1 (by decide)
theorem shr1 {m : Nat} : ((m : Nat) : Int).fdiv (2 ^ 1) = ((m / 2 : Nat) : Int) := by
  rw [Int.fdiv_eq_ediv_of_nonneg _ (by decide)]
  rfl
theorem climb_ (s : List UInt8) (leaf : Nat) (ao : Option Addr) (n cap : Nat) (L : List (List UInt8)) (w : World) (hw : RdS w ao L ∧ n = L.length ∧ L.length ≤ 1000 ∧ (∀ p, p ∈ L → p.length ≤ 1000) ∧ s.length ≤ 1000 ∧ leaf ≤ 1099511627776) : CSpec Tryz.prog 167 [str s, .int .i64 (leaf : Int), .slice ao n cap] [] w (Gives (str (cls s leaf L).1)) := by
  obtain ⟨⟨V, hV, hL⟩, rfl, hm, hp, hs, hlf⟩ := hw
  have hVl := hL.length
  refine spec_own0 Tryz.func167 rfl Tryz.ntmps167 rfl (l0 := [(0, str s), (1, .int .i64 (leaf : Int)), (2, .slice ao L.length cap)]) rfl ?_
  repeat' first
    | refine J.one ?_
    | refine J.loudS ?_
    | (refine J.loudQ ?_; intro _ _)
    | (refine J.loudB ?_; intro _)
    | (with_reducible apply J.list)
    | ((with_reducible apply J.gsplit); exact rfl; exact rfl)
    | ((with_reducible first | apply J.cond | apply JC.cond); exact rfl)
    | (intro h; exfalso; fail)
    | (intro h; (try simp only [decide_eq_true_eq, decide_eq_false_iff_not, beq_iff_eq, beq_eq_false_iff_ne, Bool.not_eq_true', Bool.not_eq_false', bne_iff_ne, bne_eq_false_iff_eq, ne_eq, ge_iff_le, gt_iff_lt] at h))
    | (with_reducible apply J.gave')
    | ((with_reducible apply J.kept'); rotate_left; (repeat (first | (with_reducible exact Outs.nil) | ((with_reducible apply Outs.cons); (repeat (first | with_reducible exact Out.here | with_reducible apply Out.there))))))
  apply J.loopI (σ := Nat) (I := fun q => (q ≤ L.length)) (L := fun q => [(0, str (cls s leaf (L.take q)).1), (1, .int .i64 (((cls s leaf (L.take q)).2 : Nat) : Int)), (9, .slice ao L.length cap), (10, .int .i64 (L.length : Int)), (11, .int .i64 (q : Int))]) (HH := fun q => []) (m := fun q => L.length - q) (s0 := 0)
  · ((try dsimp only); (exact Nat.zero_le _))
  · ((try dsimp only); repeat (first | exact sub.nil _ | (refine sub.consE rfl ?_ ?_; (first | with_reducible rfl | (fail) | rfl))))
  · ((try dsimp only); (repeat (first | (with_reducible exact Outs.nil) | ((with_reducible apply Outs.cons); (repeat (first | with_reducible exact Out.here | with_reducible apply Out.there))))))
  rintro i hI
  try dsimp only at hI ⊢
  have hcn := cls_num (L := L.take i) (s := s) (n := leaf)
  have hcl := cls_len (L := L.take i) (n := leaf) (by omega) hs
  rcases Nat.lt_or_ge i L.length with hlt | hge
  · obtain ⟨p, hl⟩ : ∃ p, L[i]? = some p := ⟨_, List.getElem?_eq_getElem hlt⟩
    obtain ⟨v, hv, ai, ci, rfl, hc, hb⟩ := RdL.get hL hl
    have hpl := hp p (List.mem_of_getElem? hl)
    have hsn : cls s leaf (L.take (i + 1)) = clst (cls s leaf (L.take i)) p := by rw [take_snoc hl, cls_snoc]
    repeat' first
      | (refine J.qv ?_; (with_reducible apply exq); focus (first
        | ((with_reducible apply Qv.andE); exact rfl; exact rfl; exact and1 (by omega))
        | ((with_reducible apply Qv.shr); exact rfl; exact rfl; decide; exact shr1)))
      | (refine J.qr ?_; (with_reducible apply exq); focus (first
        | ((with_reducible apply Qr.indexRd (k := i) (C := V)); exact rfl; exact rfl; exact rfl; omega; exact RH.old hV; omega)
        | ((with_reducible apply Qr.rd1 (C := V)); exact rfl; exact RH.old hV; (rw [Nat.mul_one]; exact hv))
        | ((with_reducible apply Qr.toStr (bs := p)); exact rfl; exact RH.old hb; exact rfl)))
      | ((with_reducible apply J.givesR (join_ _ _)); exact rfl; exact rfl; focus (refine RH.of ?_; omega))
      | refine J.one ?_
      | refine J.loudS ?_
      | (refine J.loudQ ?_; intro _ _)
      | (refine J.loudB ?_; intro _)
      | (with_reducible apply J.list)
      | ((with_reducible apply J.gsplit); exact rfl; exact rfl)
      | ((with_reducible first | apply J.cond | apply JC.cond); exact rfl)
      | (intro h; exfalso; (first | (simp at h; done) | (simp at h; omega) | omega))
      | (intro h; (try simp only [decide_eq_true_eq, decide_eq_false_iff_not, beq_iff_eq, beq_eq_false_iff_ne, Bool.not_eq_true', Bool.not_eq_false', bne_iff_ne, bne_eq_false_iff_eq, ne_eq, ge_iff_le, gt_iff_lt] at h))
      | (with_reducible apply J.gave')
      | ((with_reducible apply J.kept'); rotate_left; (repeat (first | (with_reducible exact Outs.nil) | ((with_reducible apply Outs.cons); (repeat (first | with_reducible exact Out.here | with_reducible apply Out.there))))))
    all_goals
      first
      | (have e1 : (cls s leaf (L.take (i + 1))).1 = short ((cls s leaf (L.take i)).1 ++ p) := by rw [hsn, clst]; exact if_pos (by omega)
         have e2 : (cls s leaf (L.take (i + 1))).2 = (cls s leaf (L.take i)).2 / 2 := by rw [hsn, clst]
         (apply J.againI (s := i) (s' := (i + 1)); (focus (omega)); (focus ((try dsimp only); (show i + 1 ≤ L.length; omega))); (focus (((try dsimp only); repeat (first | exact sub.nil _ | (refine sub.consE rfl ?_ ?_; (first | with_reducible rfl | ((focus (first | (rw [e1]; done) | (rw [e2]; done) | (congr 1; omega)))) | rfl)))))); ((try dsimp only); (repeat (first | (with_reducible exact Outs.nil) | ((with_reducible apply Outs.cons); (repeat (first | with_reducible exact Out.here | with_reducible apply Out.there))))))))
      | (have e1 : (cls s leaf (L.take (i + 1))).1 = short (p ++ (cls s leaf (L.take i)).1) := by rw [hsn, clst]; exact if_neg (by omega)
         have e2 : (cls s leaf (L.take (i + 1))).2 = (cls s leaf (L.take i)).2 / 2 := by rw [hsn, clst]
         (apply J.againI (s := i) (s' := (i + 1)); (focus (omega)); (focus ((try dsimp only); (show i + 1 ≤ L.length; omega))); (focus (((try dsimp only); repeat (first | exact sub.nil _ | (refine sub.consE rfl ?_ ?_; (first | with_reducible rfl | ((focus (first | (rw [e1]; done) | (rw [e2]; done) | (congr 1; omega)))) | rfl)))))); ((try dsimp only); (repeat (first | (with_reducible exact Outs.nil) | ((with_reducible apply Outs.cons); (repeat (first | with_reducible exact Out.here | with_reducible apply Out.there))))))))
      | (trace_state; fail)
  · obtain rfl : i = L.length := by omega
    rw [List.take_length] at *
    repeat' first
      | (refine J.qv ?_; (with_reducible apply exq); focus (first
        | ((with_reducible apply Qv.andE); exact rfl; exact rfl; exact and1 (by omega))
        | ((with_reducible apply Qv.shr); exact rfl; exact rfl; decide; exact shr1)))
      | (refine J.qr ?_; (with_reducible apply exq); focus (first
        | ((with_reducible apply Qr.indexRd (k := i) (C := V)); exact rfl; exact rfl; exact rfl; omega; exact RH.old hV; omega)
        | ((with_reducible apply Qr.rd1 (C := V)); exact rfl; exact RH.old hV; (rw [Nat.mul_one]; exact hv))
        | ((with_reducible apply Qr.toStr (bs := p)); exact rfl; exact RH.old hb; exact rfl)))
      | ((with_reducible apply J.givesR (join_ _ _)); exact rfl; exact rfl; focus (refine RH.of ?_; omega))
      | refine J.one ?_
      | refine J.loudS ?_
      | (refine J.loudQ ?_; intro _ _)
      | (refine J.loudB ?_; intro _)
      | (with_reducible apply J.list)
      | ((with_reducible apply J.gsplit); exact rfl; exact rfl)
      | ((with_reducible first | apply J.cond | apply JC.cond); exact rfl)
      | (intro h; exfalso; (first | (simp at h; done) | (simp at h; omega) | omega))
      | (intro h; (try simp only [decide_eq_true_eq, decide_eq_false_iff_not, beq_iff_eq, beq_eq_false_iff_ne, Bool.not_eq_true', Bool.not_eq_false', bne_iff_ne, bne_eq_false_iff_eq, ne_eq, ge_iff_le, gt_iff_lt] at h))
      | (with_reducible apply J.gave')
      | ((with_reducible apply J.kept'); rotate_left; (repeat (first | (with_reducible exact Outs.nil) | ((with_reducible apply Outs.cons); (repeat (first | with_reducible exact Out.here | with_reducible apply Out.there))))))
    all_goals
      first
      | rfl
      | (trace_state; fail)
/-- The pieces of eight. -/
def pcs (l : List UInt8) (N : Nat) : List (List UInt8) := (List.range N).map fun j => (l.drop (8 * j)).take 8
theorem pcs_length (l : List UInt8) (N : Nat) : (pcs l N).length = N := by simp [pcs]
theorem pcs_succ (l : List UInt8) (N : Nat) : pcs l (N + 1) = pcs l N ++ [(l.drop (8 * N)).take 8] := by simp [pcs, List.range_succ]
theorem pcs_get {l : List UInt8} {N j : Nat} (hj : j < N) : (pcs l N)[j]? = some ((l.drop (8 * j)).take 8) := by simp [pcs, hj]
theorem pcs_8 {l : List UInt8} {N : Nat} (hl : l.length = N * 8) : ∀ p, p ∈ pcs l N → p.length = 8 := by
  intro p hp
  simp only [pcs, List.mem_map, List.mem_range] at hp
  obtain ⟨j, hj, rfl⟩ := hp
  rw [List.length_take, List.length_drop]
  omega
theorem RdL.dropV {w : World} : ∀ {V : List Value} {L : List (List UInt8)} (k : Nat), RdL w V L → RdL w (V.drop k) (L.drop k)
  | _, _, 0, h => h
  | [], [], _ + 1, h => h
  | _ :: _, _ :: _, k + 1, h => RdL.dropV k h.2
theorem RdL.takeV {w : World} : ∀ {V : List Value} {L : List (List UInt8)} (k : Nat), RdL w V L → RdL w (V.take k) (L.take k)
  | _, _, 0, h => by simp [RdL]
  | [], [], _ + 1, h => h
  | _ :: _, _ :: _, k + 1, h => ⟨h.1, RdL.takeV k h.2⟩
/-- A new row of pieces. -/
def FreshS (n : Nat) (L : List (List UInt8)) : Ending → List Asrt → Prop := fun e H => ∃ (q : Option Addr × Nat) (V : List Value), e = .returned (.slice q.1 n q.2) ∧ n ≤ q.2 ∧ V.length = n ∧ H = [row (.slice q.1 n q.2) 93 1 n V, sepA (bsA V L)]
section
variable {P : Program} {c : Cx} {l : TL} {H : List Asrt} {Q : Exit → Act → World → Prop} {X : Act → World → Prop}
variable {ty : TypeId} {pos : String} {af : Array Edge} {d : Nat} {v : Value} {dst : Option Tmp} {mm : Nat}
theorem J.freshSR {f : Nat} [i : Eng.Enters P f] {xs : List Operand} {ts : Array TypeId} {vs : List Value} {n : Nat} {L : List (List UInt8)} {pre : World → Prop} (hS : ∀ w, pre w → CSpec P f vs [] w (FreshS n L)) (hd : Nat.blt d c.n = true) (hx : evs l xs = some vs) (hp : RH c.w0 c.own H pre)
    (K : ∀ (q : Option Addr × Nat) (V : List Value), n ≤ q.2 → V.length = n → J c ((d, .slice q.1 n q.2) :: l) (row (.slice q.1 n q.2) 93 1 n V :: sepA (bsA V L) :: H) X) : J c l H (OW P Q ⟨some d, .call ⟨.value (.func f), xs.toArray, ts⟩, ty, pos, af, none⟩ X) :=
  J.callS hd hx .nil (fun w s => hS w (hp w s)) (fun v H3 ⟨q, V, h1, h2, h3, h4⟩ => by cases h1; subst h4; exact K q V h2 h3) (fun ch H3 ⟨q, V, h1, _⟩ => by cases h1) (fun H3 ⟨q, V, h1, _⟩ => by cases h1)
theorem J.toBytesC {S T E : Nat} [i : Byt P T E] [j : StrT P S] {x : Operand} {bs : List UInt8} (hd : Nat.blt d c.n = true) (hx : ev l x = some (str bs)) (hm : bs.length ≤ maxLen)
    (K : ∀ q : Nat × Nat, bs.length ≤ q.2 ∧ q.2 ≤ maxLen → J c ((d, .slice (some ⟨q.1, 0, none⟩) bs.length q.2) :: l) (bAt (.slice (some ⟨q.1, 0, none⟩) bs.length q.2) bs :: H) X) : J c l H (OW P Q ⟨some d, .convert S T x, ty, pos, af, none⟩ X) :=
  J.opv fun a w s => by
    have h2 := run_bytes_of_string (P := P) w S T E ⟨bs.toArray⟩ j.und i.und i.el
    have hsz : (ByteArray.mk bs.toArray).size = bs.length := rfl
    rw [hsz] at h2
    have hge := grownCap_ge w bs.length 0 E
    have hle := grownCap_le_maxLen w bs.length 0 E hm
    refine ⟨_, _, by simp only [execOp, s.1.ev hx, Sem.run_bind, h2, Result.andThen_ok]; rfl, K (w.heap.size, grownCap w bs.length 0 E) ⟨hge, hle⟩ _ _ ⟨s.1.put hd, s.2.1, s.2.2.drew.new _ _ fun h' hh => ?_⟩⟩
    refine .inr ⟨w.heap.size, 0, _, _, _, _, rfl, hge, rfl, hh, fun k u hk => ?_⟩
    rw [Nat.zero_add]
    have hk' : k < bs.length := by
      have := (List.getElem?_eq_some_iff.1 hk).1
      rwa [bcs_length] at this
    rw [bytesRow_at _ _ k (by simpa using hk')]
    rw [← hk, bcs_get (List.getElem?_eq_getElem hk')]
    simp [bcell]
theorem J.rowLe {G : Act → World → Prop} {ao : Option Addr} {n m cap E sz : Nat} {C : List Value} (hm : In (Eng.row (.slice ao n cap) E sz m C) H) (K : n ≤ cap → J c l H G) : J c l H G := J.mk fun a w s => (K (s.2.2.rd_row hm).2.1).out a w s
theorem RH.srowOff {w0 : World} {own : List Nat} {ao : Option Addr} {n m cap E i k mm : Nat} {V : List Value} {L : List (List UInt8)} (hm : In (Eng.row (.slice ao n cap) E 1 m V) H) (h : RH w0 own H (fun w => RdL w V L)) (hk : k ≤ mm) : RH w0 own H (fun w => RdS w (offA ao i mm) ((L.drop i).take k)) :=
  fun w s => ⟨_, (s.rd_row hm).1.off i k mm hk, RdL.takeV k (RdL.dropV i (h w s))⟩
end
theorem cut_ (ao : Option Addr) (n cap : Nat) (l : List UInt8) (N : Nat) (w : World) (hw : (Rd w ao (bcs l) ∧ n = l.length ∧ n ≤ cap) ∧ n = N * 8 ∧ cap ≤ maxLen ∧ N ≤ 1000) : CSpec Tryz.prog 166 [.slice ao n cap, .int .i64 8] [] w (FreshS N (pcs l N)) := by
  obtain ⟨⟨hr, hln, hc⟩, hN, hcm, hm⟩ := hw
  refine spec_ownM Tryz.func166 rfl Tryz.ntmps166 rfl (l0 := [(0, .slice ao n cap), (1, .int .i64 8)]) rfl ?_
  refine J.noPanic ?_
  repeat' first
    | ((with_reducible apply J.iterC (chunkf _ _ _ 8)); exact rfl; exact rfl; decide; intro _ _)
    | refine J.one ?_
    | refine J.loudS ?_
    | (refine J.loudQ ?_; intro _ _)
    | (refine J.loudB ?_; intro _)
    | (with_reducible apply J.list)
    | ((with_reducible apply JC.draw (id := 6) [0, 0, 2, 6, 15, 31] (.q 0 (.p 1 (.x 2 (.x 3 (.x 4 (.x 5 .nil .none) .none) .none) .none))) (by kernel_rfl) ?_ (by kernel_rfl) ?_); (repeat (with_reducible first | exact PanicFree.body | exact PanicFree.np | exact PanicFree.lvS | apply PanicFree.then_ | apply PanicFree.blk)))
    | ((with_reducible apply J.pl2); exact rfl; (first | exact Gd.none | ((with_reducible apply Gd.on); exact rfl; exact rfl)); (repeat (first | (with_reducible exact PendF.nil) | ((with_reducible apply PendF.keep); exact rfl) | ((with_reducible apply PendF.gone); exact rfl))))
    | ((with_reducible apply J.pl2_off); exact rfl; ((with_reducible apply Gd.off); exact rfl; exact rfl; exact rfl); exact rfl; (repeat (first | (with_reducible exact PendF.nil) | ((with_reducible apply PendF.keep); exact rfl) | ((with_reducible apply PendF.gone); exact rfl))))
    | ((with_reducible apply J.pl2_off_none); exact rfl; ((with_reducible apply Gd.off); exact rfl; exact rfl; exact rfl); (repeat (first | (with_reducible exact PendF.nil) | ((with_reducible apply PendF.keep); exact rfl) | ((with_reducible apply PendF.gone); exact rfl))))
    | ((with_reducible first | apply J.psplit0 | apply J.psplit1 | apply J.psplit2); exact rfl; exact rfl; exact rfl)
    | (with_reducible exact J.pl_none)
    | ((with_reducible apply J.gsplit); exact rfl; exact rfl)
    | ((with_reducible first | apply J.cond | apply JC.cond); exact rfl)
    | (intro h; exfalso; (first | (simp at h; done) | (simp at h; omega)))
    | (intro h; (try simp only [decide_eq_true_eq, decide_eq_false_iff_not, beq_iff_eq, beq_eq_false_iff_ne, Bool.not_eq_true', Bool.not_eq_false', bne_iff_ne, bne_eq_false_iff_eq, ne_eq, ge_iff_le, gt_iff_lt] at h))
    | (with_reducible apply J.gave')
    | ((with_reducible apply J.kept'); rotate_left; (repeat (first | (with_reducible exact Outs.nil) | ((with_reducible apply Outs.cons); (repeat (first | with_reducible exact Out.here | with_reducible apply Out.there))))))
  rename_i b5 Bs Bn
  refine J.nilRow 93 1 ?_
  refine J.packNil ?_
  have e0 : N - N = 0 := Nat.sub_self N
  apply J.reB (b := b5) (C' := [.slice none (N - N) 0])
  · (repeat (first | with_reducible exact Upd.here | with_reducible apply Upd.there))
  · rw [e0]
  apply J.reR (v' := .slice none (N - N) 0) (n' := N - N) (C' := [])
  · (repeat (first | with_reducible exact Upd.here | with_reducible apply Upd.there))
  · rw [e0]
  · rw [e0]
  · rfl
  rw [show ([] : List (List UInt8)) = pcs l (N - N) by rw [e0]; rfl]
  apply J.rangeG (ps := [15]) (chunk_byte Bs Bn N 8 n cap ao (by decide) hN hc hcm) (fun k (s : (Option Addr × Nat) × List Value) => s.2.length = N - k) (fun k s => [blk b5 [.slice s.1.1 (N - k) s.1.2] 161, row (.slice s.1.1 (N - k) s.1.2) 93 1 (N - k) s.2, sepA (bsA s.2 (pcs l (N - k))), blk Bs [.slice ao n cap] 93, blk Bn [.int .i64 8] 3]) [falseA] (fun k => [(6, .slice (ao.map (·.add ((N - (k + 1)) * 8))) 8 8), (5, .pointer (some ⟨b5, 0, none⟩))]) ((none, 0), [])
  case hg => rfl
  case hps => rfl
  case hlen => exact fun k => rfl
  case hF => exact fun k s W _ st => ⟨st.cell (.tail _ (.tail _ (.tail _ (.head _)))) rfl, st.cell (.tail _ (.tail _ (.tail _ (.tail _ (.head _))))) rfl⟩
  case hI => simp
  case ho => ((try dsimp only); (repeat (first | (with_reducible exact Outs.nil) | ((with_reducible apply Outs.cons); (repeat (first | with_reducible exact Out.here | with_reducible apply Out.there))))))
  case hm => kernel_rfl
  case hka => rfl
  case hkb => rfl
  case hassign =>
    intro k A
    try dsimp only [putSl]
    repeat' first
      | ((with_reducible apply J.iterC (chunkf _ _ _ 8)); exact rfl; exact rfl; decide; intro _ _)
      | refine J.one ?_
      | refine J.loudS ?_
      | (refine J.loudQ ?_; intro _ _)
      | (refine J.loudB ?_; intro _)
      | (with_reducible apply J.list)
      | ((with_reducible apply JC.draw (id := 6) [0, 0, 2, 6, 15, 31] (.q 0 (.p 1 (.x 2 (.x 3 (.x 4 (.x 5 .nil .none) .none) .none) .none))) (by kernel_rfl) ?_ (by kernel_rfl) ?_); (repeat (with_reducible first | exact PanicFree.body | exact PanicFree.np | exact PanicFree.lvS | apply PanicFree.then_ | apply PanicFree.blk)))
      | ((with_reducible apply J.pl2); exact rfl; (first | exact Gd.none | ((with_reducible apply Gd.on); exact rfl; exact rfl)); (repeat (first | (with_reducible exact PendF.nil) | ((with_reducible apply PendF.keep); exact rfl) | ((with_reducible apply PendF.gone); exact rfl))))
      | ((with_reducible apply J.pl2_off); exact rfl; ((with_reducible apply Gd.off); exact rfl; exact rfl; exact rfl); exact rfl; (repeat (first | (with_reducible exact PendF.nil) | ((with_reducible apply PendF.keep); exact rfl) | ((with_reducible apply PendF.gone); exact rfl))))
      | ((with_reducible apply J.pl2_off_none); exact rfl; ((with_reducible apply Gd.off); exact rfl; exact rfl; exact rfl); (repeat (first | (with_reducible exact PendF.nil) | ((with_reducible apply PendF.keep); exact rfl) | ((with_reducible apply PendF.gone); exact rfl))))
      | ((with_reducible first | apply J.psplit0 | apply J.psplit1 | apply J.psplit2); exact rfl; exact rfl; exact rfl)
      | (with_reducible exact J.pl_none)
      | ((with_reducible apply J.gsplit); exact rfl; exact rfl)
      | ((with_reducible first | apply J.cond | apply JC.cond); exact rfl)
      | (intro h; exfalso; (first | (simp at h; done) | (simp at h; omega)))
      | (intro h; (try simp only [decide_eq_true_eq, decide_eq_false_iff_not, beq_iff_eq, beq_eq_false_iff_ne, Bool.not_eq_true', Bool.not_eq_false', bne_iff_ne, bne_eq_false_iff_eq, ne_eq, ge_iff_le, gt_iff_lt] at h))
      | (with_reducible apply J.gave')
      | ((with_reducible apply J.kept'); rotate_left; (repeat (first | (with_reducible exact Outs.nil) | ((with_reducible apply Outs.cons); (repeat (first | with_reducible exact Out.here | with_reducible apply Out.there))))))
    all_goals ((try dsimp only); apply J.stE; ((try dsimp only); repeat (first | exact sub.nil _ | (refine sub.consE rfl ?_ ?_; (first | with_reducible rfl | (fail) | rfl)))))
  case hbody =>
    rintro ll D rc k ⟨q0, V⟩ hk hI
    try dsimp only at *
    repeat' first
      | ((with_reducible apply J.appendR (news := [_])); exact rfl; exact rfl; (repeat (first | with_reducible exact Out.here | with_reducible apply Out.there)); exact rfl; exact RH.blk0 (by (repeat (first | with_reducible exact In.here | with_reducible apply In.there))); exact rfl; exact rfl; exact rfl; exact rfl; (simp only [maxLen]; omega); omega; intro _ _)
      | ((with_reducible apply J.freshR (clone_bytes _ _ _ (bcs ((l.drop ((N - (k + 1)) * 8)).take 8)))); exact rfl; exact rfl; (focus ((refine RH.and (RH.subM (RH.old hr)) (RH.of ⟨?_, bcs_ones _, ?_, ?_⟩) <;> first | (simp only [maxLen]; omega) | omega | (rw [bcs_length, List.length_take, List.length_drop]; omega)))); intro _ _)
      | refine J.one ?_
      | refine J.loudS ?_
      | (refine J.loudQ ?_; intro _ _)
      | (refine J.loudB ?_; intro _)
      | (with_reducible apply J.list)
      | ((with_reducible apply JC.draw (id := 6) [0, 0, 2, 6, 15, 31] (.q 0 (.p 1 (.x 2 (.x 3 (.x 4 (.x 5 .nil .none) .none) .none) .none))) (by kernel_rfl) ?_ (by kernel_rfl) ?_); (repeat (with_reducible first | exact PanicFree.body | exact PanicFree.np | exact PanicFree.lvS | apply PanicFree.then_ | apply PanicFree.blk)))
      | ((with_reducible apply J.pl2); exact rfl; (first | exact Gd.none | ((with_reducible apply Gd.on); exact rfl; exact rfl)); (repeat (first | (with_reducible exact PendF.nil) | ((with_reducible apply PendF.keep); exact rfl) | ((with_reducible apply PendF.gone); exact rfl))))
      | ((with_reducible apply J.pl2_off); exact rfl; ((with_reducible apply Gd.off); exact rfl; exact rfl; exact rfl); exact rfl; (repeat (first | (with_reducible exact PendF.nil) | ((with_reducible apply PendF.keep); exact rfl) | ((with_reducible apply PendF.gone); exact rfl))))
      | ((with_reducible apply J.pl2_off_none); exact rfl; ((with_reducible apply Gd.off); exact rfl; exact rfl; exact rfl); (repeat (first | (with_reducible exact PendF.nil) | ((with_reducible apply PendF.keep); exact rfl) | ((with_reducible apply PendF.gone); exact rfl))))
      | ((with_reducible first | apply J.psplit0 | apply J.psplit1 | apply J.psplit2); exact rfl; exact rfl; exact rfl)
      | (with_reducible exact J.pl_none)
      | ((with_reducible apply J.gsplit); exact rfl; exact rfl)
      | ((with_reducible first | apply J.cond | apply JC.cond); exact rfl)
      | (intro h; exfalso; fail)
      | (intro h; (try simp only [decide_eq_true_eq, decide_eq_false_iff_not, beq_iff_eq, beq_eq_false_iff_ne, Bool.not_eq_true', Bool.not_eq_false', bne_iff_ne, bne_eq_false_iff_eq, ne_eq, ge_iff_le, gt_iff_lt] at h))
      | (with_reducible apply J.gave')
      | ((with_reducible apply J.kept'); rotate_left; (repeat (first | (with_reducible exact Outs.nil) | ((with_reducible apply Outs.cons); (repeat (first | with_reducible exact Out.here | with_reducible apply Out.there))))))
    all_goals
      first
      | (rename_i q1 _ b q2 _
         apply J.rowPack (V := V) (L := pcs l (N - (k + 1)))
         · (repeat (first | with_reducible exact Out.here | with_reducible apply Out.there))
         · (repeat (first | with_reducible exact Out.here | with_reducible apply Out.there))
         · rw [List.length_take, List.length_drop]; omega
         · rw [pcs_length]; exact hI
         have e1 : N - k = N - (k + 1) + 1 := by omega
         have e2 : pcs l (N - k) = pcs l (N - (k + 1)) ++ [(l.drop ((N - (k + 1)) * 8)).take 8] := by rw [e1, pcs_succ, Nat.mul_comm 8]
         rw [← e2]
         apply J.lvN (q2, V ++ [.slice q1.1 8 q1.2]) (by simp; omega)
         (dsimp only [List.cons_append, List.nil_append]; rw [e1]; (repeat (first | (with_reducible exact Outs.nil) | ((with_reducible apply Outs.cons); (repeat (first | with_reducible exact Out.here | with_reducible apply Out.there)))))))
      | (trace_state; fail)
  case hdone =>
    rintro ⟨q0, V⟩ hI D
    try dsimp only at *
    repeat' first
      | ((with_reducible apply J.iterC (chunkf _ _ _ 8)); exact rfl; exact rfl; decide; intro _ _)
      | refine J.one ?_
      | refine J.loudS ?_
      | (refine J.loudQ ?_; intro _ _)
      | (refine J.loudB ?_; intro _)
      | (with_reducible apply J.list)
      | ((with_reducible apply JC.draw (id := 6) [0, 0, 2, 6, 15, 31] (.q 0 (.p 1 (.x 2 (.x 3 (.x 4 (.x 5 .nil .none) .none) .none) .none))) (by kernel_rfl) ?_ (by kernel_rfl) ?_); (repeat (with_reducible first | exact PanicFree.body | exact PanicFree.np | exact PanicFree.lvS | apply PanicFree.then_ | apply PanicFree.blk)))
      | ((with_reducible apply J.pl2); exact rfl; (first | exact Gd.none | ((with_reducible apply Gd.on); exact rfl; exact rfl)); (repeat (first | (with_reducible exact PendF.nil) | ((with_reducible apply PendF.keep); exact rfl) | ((with_reducible apply PendF.gone); exact rfl))))
      | ((with_reducible apply J.pl2_off); exact rfl; ((with_reducible apply Gd.off); exact rfl; exact rfl; exact rfl); exact rfl; (repeat (first | (with_reducible exact PendF.nil) | ((with_reducible apply PendF.keep); exact rfl) | ((with_reducible apply PendF.gone); exact rfl))))
      | ((with_reducible apply J.pl2_off_none); exact rfl; ((with_reducible apply Gd.off); exact rfl; exact rfl; exact rfl); (repeat (first | (with_reducible exact PendF.nil) | ((with_reducible apply PendF.keep); exact rfl) | ((with_reducible apply PendF.gone); exact rfl))))
      | ((with_reducible first | apply J.psplit0 | apply J.psplit1 | apply J.psplit2); exact rfl; exact rfl; exact rfl)
      | (with_reducible exact J.pl_none)
      | ((with_reducible apply J.gsplit); exact rfl; exact rfl)
      | ((with_reducible first | apply J.cond | apply JC.cond); exact rfl)
      | (intro h; exfalso; (first | (simp at h; done) | (simp at h; omega)))
      | (intro h; (try simp only [decide_eq_true_eq, decide_eq_false_iff_not, beq_iff_eq, beq_eq_false_iff_ne, Bool.not_eq_true', Bool.not_eq_false', bne_iff_ne, bne_eq_false_iff_eq, ne_eq, ge_iff_le, gt_iff_lt] at h))
      | (with_reducible apply J.gave')
      | ((with_reducible apply J.kept'); rotate_left; (repeat (first | (with_reducible exact Outs.nil) | ((with_reducible apply Outs.cons); (repeat (first | with_reducible exact Out.here | with_reducible apply Out.there))))))
    rw [Nat.sub_zero] at *
    all_goals
      first
      | (refine J.rowLe (ao := q0.1) (n := N) (cap := q0.2) (by (repeat (first | with_reducible exact In.here | with_reducible apply In.there))) fun hle => ?_
         exact J.post ⟨q0, V, rfl, hle, hI, rfl⟩ (by (repeat (first | (with_reducible exact Outs.nil) | ((with_reducible apply Outs.cons); (repeat (first | with_reducible exact Out.here | with_reducible apply Out.there)))))))
      | (trace_state; fail)
  case hstop =>
    intro D
    exact J.absurd_ (.there .here)
/-- A signature's leaf. -/
def leafF (s : List UInt8) : Int := if s = [] then -1 else ((s.headD 0).toNat : Int)
theorem head_get {s : List UInt8} (h : ¬s = []) : s[0]? = some (s.headD 0) := by
  cases s with
  | nil => exact absurd rfl h
  | cons b r => rfl
theorem leaf_nat {s : List UInt8} (h : s.length = 145) : leafF s = ((s.headD 0).toNat : Int) := if_neg (by intro e; rw [e] at h; simp at h)
theorem leaf_ (s : List UInt8) (w : World) (hw : True) : CSpec Tryz.prog 165 [str s] [] w (Gives (.int .i64 (leafF s))) := by
  have hb := (s.headD 0).toNat_lt
  refine spec_own0 Tryz.func165 rfl Tryz.ntmps165 rfl (l0 := [(0, str s)]) rfl ?_
  repeat' first
    | (refine J.qv ?_; (with_reducible apply exq); focus (first
      | ((with_reducible apply Qv.idxS (n := 0)); exact rfl; exact rfl; exact rfl; exact head_get (by assumption))
      | ((with_reducible apply Qv.conv); exact rfl; exact wr64 (z := (((s.headD 0).toNat : Nat) : Int)) (by omega) (by omega) rfl)))
    | refine J.one ?_
    | refine J.loudS ?_
    | (refine J.loudQ ?_; intro _ _)
    | (refine J.loudB ?_; intro _)
    | (with_reducible apply J.list)
    | ((with_reducible apply J.gsplit); exact rfl; exact rfl)
    | ((with_reducible first | apply J.cond | apply JC.cond); exact rfl)
    | (intro h; exfalso; fail)
    | (intro h; (try simp only [decide_eq_true_eq, decide_eq_false_iff_not, beq_iff_eq, beq_eq_false_iff_ne, Bool.not_eq_true', Bool.not_eq_false', bne_iff_ne, bne_eq_false_iff_eq, ne_eq, ge_iff_le, gt_iff_lt] at h))
    | (with_reducible apply J.gave')
    | ((with_reducible apply J.kept'); rotate_left; (repeat (first | (with_reducible exact Outs.nil) | ((with_reducible apply Outs.cons); (repeat (first | with_reducible exact Out.here | with_reducible apply Out.there))))))
  all_goals
    first
    | (simp only [retv, leafF]; rw [if_pos (by assumption)]; done)
    | (simp only [retv, leafF]; rw [if_neg (by assumption)]; done)
    | (trace_state; fail)
section
variable {c : Cx} {l : TL} {H : List Asrt} {w0 : World} {own : List Nat}
theorem J.packAt {G : Act → World → Prop} {V : List Value} {L : List (List UInt8)} {i : Nat} {p : List UInt8} (hm : In (sepA (bsA V L)) H) (hl : V.length = L.length) (hi : L[i]? = some p) (K : ∀ ai ci, V[i]? = some (.slice ai p.length ci) → J c l H G) : J c l H G := J.mk fun a w s => by
  obtain ⟨v, hv, ai, ci, rfl, _, _⟩ := RdL.get (s.2.2.rd_bs hm hl) hi
  exact (K ai ci hv).out a w s
theorem RH.packAt {V : List Value} {L : List (List UInt8)} {i n ci : Nat} {p : List UInt8} {ai : Option Addr} (hm : In (sepA (bsA V L)) H) (hl : V.length = L.length) (hi : L[i]? = some p) (hv : V[i]? = some (.slice ai n ci)) : RH w0 own H (fun w => Rd w ai (bcs p)) := fun w s => by
  obtain ⟨v, hv2, ai2, ci2, rfl, _, hb⟩ := RdL.get (s.rd_bs hm hl) hi
  rw [hv] at hv2
  cases hv2
  exact hb
end
/-- The root that a signature leads to. -/
noncomputable def upF (T sig : List UInt8) : List UInt8 := (cls (openF T ((pcs (sig.drop 1) 18).take 15)) (leafF sig).toNat (((pcs (sig.drop 1) 18).drop 15).take 3)).1
open Classical in
noncomputable def vrf (root T sig : List UInt8) : Int × Bool := if sig.length = 145 ∧ leafF sig < 8 ∧ upF T sig = root then (leafF sig, true) else (0, false)
theorem openF_le (T : List UInt8) (P : List (List UInt8)) : (openF T P).length ≤ 8 := by
  unfold openF
  split
  · rw [short_length]; omega
  · simp
theorem verify_ (root : List UInt8) (aot : Option Addr) (nt capt : Nat) (T sig : List UInt8) (w : World) (hw : Rd w aot (bcs T) ∧ nt = T.length ∧ T.length ≤ 1099511627776) : CSpec Tryz.prog 157 [str root, .slice aot nt capt, str sig] [] w (Gives (.tuple #[.int .i64 (vrf root T sig).1, .bool (vrf root T sig).2])) := by
  obtain ⟨hT, rfl, hTl⟩ := hw
  have hD0 : ((sig.drop 1).take (sig.length - 1)).length = sig.length - 1 := by rw [List.length_take, List.length_drop]; omega
  refine spec_own0 Tryz.func157 rfl Tryz.ntmps157 rfl (l0 := [(0, str root), (1, .slice aot T.length capt), (2, str sig)]) rfl ?_
  repeat' first
    | (refine J.qv ?_; (with_reducible apply exq); focus (first
      | ((with_reducible apply Qv.slS (p := 1) (r := sig.length)); exact rfl; exact Bd.some rfl rfl; exact Bd.none; omega; omega)
      | ((with_reducible apply Qv.sliceTo (k := 15)); exact rfl; exact rfl; exact rfl; omega)))
    | ((with_reducible apply J.toBytesC); exact rfl; exact rfl; (simp only [maxLen]; rw [hD0]; omega); intro _ _)
    | ((with_reducible apply J.givesR (leaf_ _)); exact rfl; exact rfl; focus (exact RH.of trivial))
    | ((with_reducible apply J.freshSR (cut_ _ _ _ ((sig.drop 1).take (sig.length - 1)) 18)); exact rfl; exact rfl; (focus (refine RH.and (RH.and (RH.bat (by (repeat (first | with_reducible exact In.here | with_reducible apply In.there)))) (RH.of ⟨rfl, ?_⟩)) (RH.of ⟨?_, ?_, ?_⟩) <;> omega)); intro _ _ _ _)
    | refine J.one ?_
    | refine J.loudS ?_
    | (refine J.loudQ ?_; intro _ _)
    | (refine J.loudB ?_; intro _)
    | (with_reducible apply J.list)
    | ((with_reducible apply J.draw (id := 11) [0, 0, 3, 0, 0, 16, 63, 0, 255] (.p 0 (.p 1 (.p 3 (.p 4 (.p 5 (.p 7 (.x 2 (.x 6 (.p 8 .nil) .none) .none))))))) (by kernel_rfl) ?_ (by kernel_rfl) ?_); (repeat (with_reducible first | exact PanicFree.body | exact PanicFree.np | exact PanicFree.lvS | apply PanicFree.then_ | apply PanicFree.blk)))
    | ((with_reducible apply J.pl2); exact rfl; (first | exact Gd.none | ((with_reducible apply Gd.on); exact rfl; exact rfl)); (repeat (first | (with_reducible exact PendF.nil) | ((with_reducible apply PendF.keep); exact rfl) | ((with_reducible apply PendF.gone); exact rfl))))
    | ((with_reducible apply J.pl2_off); exact rfl; ((with_reducible apply Gd.off); exact rfl; exact rfl; exact rfl); exact rfl; (repeat (first | (with_reducible exact PendF.nil) | ((with_reducible apply PendF.keep); exact rfl) | ((with_reducible apply PendF.gone); exact rfl))))
    | ((with_reducible apply J.pl2_off_none); exact rfl; ((with_reducible apply Gd.off); exact rfl; exact rfl; exact rfl); (repeat (first | (with_reducible exact PendF.nil) | ((with_reducible apply PendF.keep); exact rfl) | ((with_reducible apply PendF.gone); exact rfl))))
    | ((with_reducible first | apply J.psplit0 | apply J.psplit1 | apply J.psplit2); exact rfl; exact rfl; exact rfl)
    | (with_reducible exact J.pl_none)
    | ((with_reducible apply J.gsplit); exact rfl; exact rfl)
    | ((with_reducible first | apply J.cond | apply JC.cond); exact rfl)
    | (intro h; exfalso; (first | (simp at h; done) | (simp at h; omega) | omega))
    | (intro h; (try simp only [decide_eq_true_eq, decide_eq_false_iff_not, beq_iff_eq, beq_eq_false_iff_ne, Bool.not_eq_true', Bool.not_eq_false', bne_iff_ne, bne_eq_false_iff_eq, ne_eq, ge_iff_le, gt_iff_lt] at h))
    | (with_reducible apply J.gave')
    | ((with_reducible apply J.kept'); rotate_left; (repeat (first | (with_reducible exact Outs.nil) | ((with_reducible apply Outs.cons); (repeat (first | with_reducible exact Out.here | with_reducible apply Out.there))))))
  all_goals try
    first
    | (have e : vrf root T sig = (0, false) := by unfold vrf; exact if_neg (fun hc => absurd hc.1 (by omega))
       rw [e]
       rfl)
    | (have e : vrf root T sig = (0, false) := by unfold vrf; exact if_neg (fun hc => absurd hc.2.1 (by omega))
       rw [e]
       rfl)
  rename_i q V hq hVn
  obtain ⟨kk, hkk⟩ : ∃ k : Nat, leafF sig = (k : Int) := ⟨_, leaf_nat (by omega)⟩
  have hsl : sig.length = 145 := by omega
  have hDD : (sig.drop 1).take (sig.length - 1) = sig.drop 1 := List.take_of_length_le (by rw [List.length_drop]; omega)
  have hD : (sig.drop 1).length = 18 * 8 := by rw [List.length_drop]; omega
  have hVl : V.length = (pcs (sig.drop 1) 18).length := by rw [pcs_length]; exact hVn
  rw [hDD, hkk]
  refine J.nilRow 9 1 ?_
  rw [show ([] : List Value) = scs ((pcs (sig.drop 1) 18).take 0) from rfl]
  apply J.loopI (σ := (Nat × (Option Addr × Nat))) (I := fun s => (s.1 ≤ 15)) (L := fun s => [(0, str root), (1, .slice aot T.length capt), (8, .int .i64 (kk : Int)), (9, .slice q.1 18 q.2), (27, .slice q.1 15 q.2), (28, .int .i64 15), (29, .int .i64 (s.1 : Int)), (10, .slice s.2.1 s.1 s.2.2)]) (HH := fun s => [row (.slice q.1 18 q.2) 93 1 18 V, sepA (bsA V (pcs (sig.drop 1) 18)), row (.slice s.2.1 s.1 s.2.2) 9 1 s.1 (scs ((pcs (sig.drop 1) 18).take s.1))]) (m := fun s => 15 - s.1) (s0 := (0, (none, 0)))
  · ((try dsimp only); (exact Nat.zero_le _))
  · ((try dsimp only); repeat (first | exact sub.nil _ | (refine sub.consE rfl ?_ ?_; (first | with_reducible rfl | (fail) | rfl))))
  · ((try dsimp only); (repeat (first | (with_reducible exact Outs.nil) | ((with_reducible apply Outs.cons); (repeat (first | with_reducible exact Out.here | with_reducible apply Out.there))))))
  rintro ⟨i, q3⟩ hI
  try dsimp only at hI ⊢
  have hpl := pcs_length (sig.drop 1) 18
  rcases Nat.lt_or_ge i 15 with hlt | hge
  · obtain ⟨p, hp⟩ : ∃ p, (pcs (sig.drop 1) 18)[i]? = some p := ⟨_, List.getElem?_eq_getElem (by omega)⟩
    have hts := take_snoc hp
    refine J.packAt (by (repeat (first | with_reducible exact In.here | with_reducible apply In.there))) hVl hp fun ai ci hv => ?_
    repeat' first
      | (refine J.qr ?_; (with_reducible apply exq); focus (first
        | ((with_reducible apply Qr.indexRd (k := i) (C := V)); exact rfl; exact rfl; exact rfl; omega; exact RH.row (by (repeat (first | with_reducible exact In.here | with_reducible apply In.there))); omega)
        | ((with_reducible apply Qr.rd1 (C := V)); exact rfl; exact RH.row (by (repeat (first | with_reducible exact In.here | with_reducible apply In.there))); (rw [Nat.mul_one]; exact hv))
        | ((with_reducible apply Qr.toStr (bs := p)); exact rfl; exact RH.packAt (by (repeat (first | with_reducible exact In.here | with_reducible apply In.there))) hVl hp hv; exact rfl)))
      | (refine J.qo ?_; refine ⟨?_, ?_⟩; focus (first
        | ((with_reducible apply Qr.indexRd (k := i) (C := V)); exact rfl; exact rfl; exact rfl; omega; exact RH.row (by (repeat (first | with_reducible exact In.here | with_reducible apply In.there))); omega)
        | ((with_reducible apply Qr.rd1 (C := V)); exact rfl; exact RH.row (by (repeat (first | with_reducible exact In.here | with_reducible apply In.there))); (rw [Nat.mul_one]; exact hv))
        | ((with_reducible apply Qr.toStr (bs := p)); exact rfl; exact RH.packAt (by (repeat (first | with_reducible exact In.here | with_reducible apply In.there))) hVl hp hv; exact rfl)))
      | ((with_reducible apply J.appendR (news := [_])); exact rfl; exact rfl; (repeat (first | with_reducible exact Out.here | with_reducible apply Out.there)); exact rfl; exact RH.blk0 (by (repeat (first | with_reducible exact In.here | with_reducible apply In.there))); exact rfl; exact rfl; exact rfl; exact rfl; (simp only [maxLen]; omega); omega; intro _ _)
      | refine J.one ?_
      | refine J.loudS ?_
      | (refine J.loudQ ?_; intro _ _)
      | (refine J.loudB ?_; intro _)
      | (with_reducible apply J.list)
      | ((with_reducible apply J.draw (id := 11) [0, 0, 3, 0, 0, 16, 63, 0, 255] (.p 0 (.p 1 (.p 3 (.p 4 (.p 5 (.p 7 (.x 2 (.x 6 (.p 8 .nil) .none) .none))))))) (by kernel_rfl) ?_ (by kernel_rfl) ?_); (repeat (with_reducible first | exact PanicFree.body | exact PanicFree.np | exact PanicFree.lvS | apply PanicFree.then_ | apply PanicFree.blk)))
      | ((with_reducible apply J.pl2); exact rfl; (first | exact Gd.none | ((with_reducible apply Gd.on); exact rfl; exact rfl)); (repeat (first | (with_reducible exact PendF.nil) | ((with_reducible apply PendF.keep); exact rfl) | ((with_reducible apply PendF.gone); exact rfl))))
      | ((with_reducible apply J.pl2_off); exact rfl; ((with_reducible apply Gd.off); exact rfl; exact rfl; exact rfl); exact rfl; (repeat (first | (with_reducible exact PendF.nil) | ((with_reducible apply PendF.keep); exact rfl) | ((with_reducible apply PendF.gone); exact rfl))))
      | ((with_reducible apply J.pl2_off_none); exact rfl; ((with_reducible apply Gd.off); exact rfl; exact rfl; exact rfl); (repeat (first | (with_reducible exact PendF.nil) | ((with_reducible apply PendF.keep); exact rfl) | ((with_reducible apply PendF.gone); exact rfl))))
      | ((with_reducible first | apply J.psplit0 | apply J.psplit1 | apply J.psplit2); exact rfl; exact rfl; exact rfl)
      | (with_reducible exact J.pl_none)
      | ((with_reducible apply J.gsplit); exact rfl; exact rfl)
      | ((with_reducible first | apply J.cond | apply JC.cond); exact rfl)
      | (intro h; exfalso; (first | (simp at h; done) | (simp at h; omega) | omega))
      | (intro h; (try simp only [decide_eq_true_eq, decide_eq_false_iff_not, beq_iff_eq, beq_eq_false_iff_ne, Bool.not_eq_true', Bool.not_eq_false', bne_iff_ne, bne_eq_false_iff_eq, ne_eq, ge_iff_le, gt_iff_lt] at h))
      | (with_reducible apply J.gave')
      | ((with_reducible apply J.kept'); rotate_left; (repeat (first | (with_reducible exact Outs.nil) | ((with_reducible apply Outs.cons); (repeat (first | with_reducible exact Out.here | with_reducible apply Out.there))))))
    all_goals
      first
      | (rw [show scs ((pcs (sig.drop 1) 18).take i) ++ [str p] = scs ((pcs (sig.drop 1) 18).take (i + 1)) by rw [hts, scs_append]; rfl]
         (apply J.againI (s := (i, q3)) (s' := (i + 1, _)); (focus (omega)); (focus ((try dsimp only); (show i + 1 ≤ 15; omega))); (focus (((try dsimp only); repeat (first | exact sub.nil _ | (refine sub.consE rfl ?_ ?_; (first | with_reducible rfl | ((focus (congr 1; omega))) | rfl)))))); ((try dsimp only); (repeat (first | (with_reducible exact Outs.nil) | ((with_reducible apply Outs.cons); (repeat (first | with_reducible exact Out.here | with_reducible apply Out.there))))))))
      | (trace_state; fail)
  · obtain rfl : i = 15 := by omega
    have hol := openF_le T ((pcs (sig.drop 1) 18).take 15)
    have hpt : ((pcs (sig.drop 1) 18).take 15).length = 15 := by rw [List.length_take]; omega
    have hpd : (((pcs (sig.drop 1) 18).drop 15).take 3).length = 3 := by rw [List.length_take, List.length_drop]; omega
    have hup : upF T sig = (cls (openF T ((pcs (sig.drop 1) 18).take 15)) kk (((pcs (sig.drop 1) 18).drop 15).take 3)).1 := by unfold upF; rw [hkk]; rfl
    repeat' first
      | (refine J.qv ?_; (with_reducible apply exq); focus (first
        | ((with_reducible apply Qv.sl (p := 15) (r := 18)); exact rfl; exact Bd.some rfl rfl; exact Bd.none; omega; omega)))
      | ((with_reducible apply J.givesR (open_ _ _ _ T _ _ _ ((pcs (sig.drop 1) 18).take 15))); exact rfl; exact rfl; focus (refine RH.and (RH.and (RH.old hT) (RH.row (by (repeat (first | with_reducible exact In.here | with_reducible apply In.there))))) (RH.of ⟨rfl, ?_, ?_, ?_⟩) <;> omega))
      | ((with_reducible apply J.givesR (climb_ (openF T ((pcs (sig.drop 1) 18).take 15)) kk _ _ _ (((pcs (sig.drop 1) 18).drop 15).take 3))); exact rfl; exact rfl; focus (refine RH.and (RH.srowOff (k := 3) (by (repeat (first | with_reducible exact In.here | with_reducible apply In.there))) (RH.lbs (by (repeat (first | with_reducible exact In.here | with_reducible apply In.there))) hVl) ?_) (RH.of ⟨?_, ?_, ?_, ?_, ?_⟩) <;> first | omega | (intro p hp; exact Nat.le_trans (Nat.le_of_eq (pcs_8 hD p (List.mem_of_mem_drop (List.mem_of_mem_take hp)))) (by omega))))
      | refine J.one ?_
      | refine J.loudS ?_
      | (refine J.loudQ ?_; intro _ _)
      | (refine J.loudB ?_; intro _)
      | (with_reducible apply J.list)
      | ((with_reducible apply J.draw (id := 11) [0, 0, 3, 0, 0, 16, 63, 0, 255] (.p 0 (.p 1 (.p 3 (.p 4 (.p 5 (.p 7 (.x 2 (.x 6 (.p 8 .nil) .none) .none))))))) (by kernel_rfl) ?_ (by kernel_rfl) ?_); (repeat (with_reducible first | exact PanicFree.body | exact PanicFree.np | exact PanicFree.lvS | apply PanicFree.then_ | apply PanicFree.blk)))
      | ((with_reducible apply J.pl2); exact rfl; (first | exact Gd.none | ((with_reducible apply Gd.on); exact rfl; exact rfl)); (repeat (first | (with_reducible exact PendF.nil) | ((with_reducible apply PendF.keep); exact rfl) | ((with_reducible apply PendF.gone); exact rfl))))
      | ((with_reducible apply J.pl2_off); exact rfl; ((with_reducible apply Gd.off); exact rfl; exact rfl; exact rfl); exact rfl; (repeat (first | (with_reducible exact PendF.nil) | ((with_reducible apply PendF.keep); exact rfl) | ((with_reducible apply PendF.gone); exact rfl))))
      | ((with_reducible apply J.pl2_off_none); exact rfl; ((with_reducible apply Gd.off); exact rfl; exact rfl; exact rfl); (repeat (first | (with_reducible exact PendF.nil) | ((with_reducible apply PendF.keep); exact rfl) | ((with_reducible apply PendF.gone); exact rfl))))
      | ((with_reducible first | apply J.psplit0 | apply J.psplit1 | apply J.psplit2); exact rfl; exact rfl; exact rfl)
      | (with_reducible exact J.pl_none)
      | ((with_reducible apply J.gsplit); exact rfl; exact rfl)
      | ((with_reducible first | apply J.cond | apply JC.cond); exact rfl)
      | (intro h; exfalso; (first | (simp at h; done) | (simp at h; omega) | omega))
      | (intro h; (try simp only [decide_eq_true_eq, decide_eq_false_iff_not, beq_iff_eq, beq_eq_false_iff_ne, Bool.not_eq_true', Bool.not_eq_false', bne_iff_ne, bne_eq_false_iff_eq, ne_eq, ge_iff_le, gt_iff_lt] at h))
      | (with_reducible apply J.gave')
      | ((with_reducible apply J.kept'); rotate_left; (repeat (first | (with_reducible exact Outs.nil) | ((with_reducible apply Outs.cons); (repeat (first | with_reducible exact Out.here | with_reducible apply Out.there))))))
    all_goals
      first
      | (have e : vrf root T sig = (0, false) := by unfold vrf; rw [hup]; exact if_neg (fun hc => absurd hc.2.2 (by assumption))
         rw [e]
         rfl)
      | (have e : vrf root T sig = ((kk : Int), true) := by unfold vrf; rw [hup, hkk]; exact if_pos ⟨hsl, by omega, by assumption⟩
         rw [e]
         rfl)
      | (trace_state; fail)
end Go.Proofs.YtljbedladifgmaaGreat.Mss
namespace Go.Proofs.YtljbedladifgmaaGreat.Esc
open Go Go.RowKit Eng
set_option linter.unusedVariables false
set_option maxRecDepth 100000
set_option linter.unusedSimpArgs false
open Wide Purse Tx Sha Ss
set_option maxHeartbeats 1000000
theorem check_ (e : Int) (w : World) (hw : True) : CSpec Tryz.prog 111 [.int .i64 e] [] w (RE e (.tuple #[]) []) := by
  refine spec_own0 Tryz.func111 rfl Tryz.ntmps111 rfl (l0 := [(0, .int .i64 e)]) rfl ?_
  repeat' first
    | (with_reducible first | apply J.then_panic | apply J.blk_panic | apply J.sco_panic)
    | ((with_reducible apply J.panic); exact rfl)
    | (refine J.qv ?_; (with_reducible apply exq); focus (first
      | ((with_reducible apply Qv.mkIface (f := 0)); exact rfl)))
    | ((with_reducible apply J.panicOp); exact rfl)
    | refine J.one ?_
    | refine J.loudS ?_
    | (refine J.loudQ ?_; intro _ _)
    | (refine J.loudB ?_; intro _)
    | (with_reducible apply J.list)
    | ((with_reducible apply J.gsplit); exact rfl; exact rfl)
    | ((with_reducible first | apply J.cond | apply JC.cond); exact rfl)
    | (intro h; exfalso; fail)
    | (intro h; (try simp only [decide_eq_true_eq, decide_eq_false_iff_not, beq_iff_eq, beq_eq_false_iff_ne, Bool.not_eq_true', Bool.not_eq_false', bne_iff_ne, bne_eq_false_iff_eq, ne_eq, ge_iff_le, gt_iff_lt] at h))
    | (with_reducible apply J.gave')
    | ((with_reducible apply J.kept'); rotate_left; (repeat (first | (with_reducible exact Outs.nil) | ((with_reducible apply Outs.cons); (repeat (first | with_reducible exact Out.here | with_reducible apply Out.there))))))
  all_goals
    first
    | ((with_reducible apply J.fine); assumption; exact rfl; (repeat (first | (with_reducible exact Outs.nil) | ((with_reducible apply Outs.cons); (repeat (first | with_reducible exact Out.here | with_reducible apply Out.there))))))
    | ((with_reducible apply J.stops); assumption; exact rfl)
    | ((with_reducible apply J.stops0); assumption; exact rfl)
    | (trace_state; fail)
theorem need_ (b : Bool) (e : Int) (w : World) (hw : e ≠ 0) : CSpec Tryz.prog 139 [.bool b, .int .i64 e] [] w (RE (if b = true then 0 else e) (.tuple #[]) []) := by
  refine spec_own0 Tryz.func139 rfl Tryz.ntmps139 rfl (l0 := [(0, .bool b), (1, .int .i64 e)]) rfl ?_
  repeat' first
    | (with_reducible first | apply J.then_panic | apply J.blk_panic | apply J.sco_panic)
    | ((with_reducible apply J.panic); exact rfl)
    | (refine J.qv ?_; (with_reducible apply exq); focus (first
      | ((with_reducible apply Qv.mkIface (f := 0)); exact rfl)))
    | ((with_reducible apply J.panicOp); exact rfl)
    | refine J.one ?_
    | refine J.loudS ?_
    | (refine J.loudQ ?_; intro _ _)
    | (refine J.loudB ?_; intro _)
    | (with_reducible apply J.list)
    | ((with_reducible apply J.gsplit); exact rfl; exact rfl)
    | ((with_reducible first | apply J.cond | apply JC.cond); exact rfl)
    | (intro h; exfalso; fail)
    | (intro h; (try simp only [decide_eq_true_eq, decide_eq_false_iff_not, beq_iff_eq, beq_eq_false_iff_ne, Bool.not_eq_true', Bool.not_eq_false', bne_iff_ne, bne_eq_false_iff_eq, ne_eq, ge_iff_le, gt_iff_lt] at h))
    | (with_reducible apply J.gave')
    | ((with_reducible apply J.kept'); rotate_left; (repeat (first | (with_reducible exact Outs.nil) | ((with_reducible apply Outs.cons); (repeat (first | with_reducible exact Out.here | with_reducible apply Out.there))))))
  all_goals
    first
    | ((with_reducible apply J.fine); exact if_pos (by assumption); exact rfl; (repeat (first | (with_reducible exact Outs.nil) | ((with_reducible apply Outs.cons); (repeat (first | with_reducible exact Out.here | with_reducible apply Out.there))))))
    | ((with_reducible apply J.fine); (simp [*]; done); exact rfl; (repeat (first | (with_reducible exact Outs.nil) | ((with_reducible apply Outs.cons); (repeat (first | with_reducible exact Out.here | with_reducible apply Out.there))))))
    | ((with_reducible apply J.stops0); (focus (simp [*]; done)); (focus (simp [*]; done)))
    | (trace_state; fail)
theorem needP_ (p : Prop) (dp : Decidable p) (e : Int) (w : World) (hw : e ≠ 0) : CSpec Tryz.prog 139 [.bool (decide p), .int .i64 e] [] w (RE (if p then 0 else e) (.tuple #[]) []) := by
  have h := need_ (decide p) e w hw
  by_cases hp : p <;> simpa [hp] using h
theorem take_ (b off : Nat) (C : List Value) (ns : Nat → Int) (a s x : Int) (w : World) (hw : (C.drop off).take 64 = wvs ns 16 ∧ C.length = 151 ∧ off ≤ 80 ∧ (∀ j, Wd (ns j)) ∧ Wd x) : CSpec Tryz.prog 136 [.pointer (some ⟨b, off, none⟩), .int .i64 a, .int .i64 s, .agg (wv x).toArray] [blk b C 34] w (RE (tkR ns a s x).2 (.tuple #[]) [blk b (splice C off (wvs (tkR ns a s x).1 16)) 34]) := by
  obtain ⟨hC, hl, ho, hws, hx⟩ := hw
  refine spec_of Tryz.func136 rfl Tryz.ntmps136 rfl (l0 := [(0, .pointer (some ⟨b, off, none⟩)), (1, .int .i64 a), (2, .int .i64 s), (3, .agg (wv x).toArray)]) rfl ?_
  intro fp
  repeat' first
    | (with_reducible first | apply J.then_panic | apply J.blk_panic | apply J.sco_panic)
    | ((with_reducible apply J.panic); exact rfl)
    | (refine J.qr ?_; (with_reducible apply exq); focus (first
      | ((with_reducible apply Qr.loadFull); exact rfl; (repeat (first | with_reducible exact In.here | with_reducible apply In.there)); (exact wvs_length _ _))
      | ((with_reducible apply Qr.loadN); exact rfl; (repeat (first | with_reducible exact In.here | with_reducible apply In.there)); exact hC; exact wvs_length _ _)))
    | (refine J.qo ?_; refine ⟨?_, ?_⟩; focus (first
      | ((with_reducible apply Qr.loadFull); exact rfl; (repeat (first | with_reducible exact In.here | with_reducible apply In.there)); (exact wvs_length _ _))
      | ((with_reducible apply Qr.loadN); exact rfl; (repeat (first | with_reducible exact In.here | with_reducible apply In.there)); exact hC; exact wvs_length _ _)))
    | ((with_reducible apply J.storeFull); exact rfl; exact rfl; (repeat (first | with_reducible exact Upd.here | with_reducible apply Upd.there)); (exact wvs_length _ _); (focus (first | exact wvs_length _ _ | kernel_rfl)); (exact wvs_ones _ _))
    | ((with_reducible apply J.storeN); exact rfl; exact rfl; (repeat (first | with_reducible exact Upd.here | with_reducible apply Upd.there)); exact rfl; exact wvs_length _ _; (focus (rw [hl]; omega)); exact wvs_ones _ _)
    | ((with_reducible apply J.givesP (take _ _ _ _)); exact rfl; exact rfl; exact ⟨hws, hx⟩)
    | ((with_reducible apply J.retER (check_ _)); exact rfl; exact rfl; exact RH.of trivial)
    | refine J.one ?_
    | refine J.loudS ?_
    | (refine J.loudQ ?_; intro _ _)
    | (refine J.loudB ?_; intro _)
    | (with_reducible apply J.list)
    | ((with_reducible apply J.draw (id := 1) [0, 1, 3, 0, 0, 0, 63, 127, 255, 255, 0, 1535, 4095] (.p 0 (.p 1 (.q 2 (.p 3 (.p 4 (.q 5 (.x 6 (.p 7 (.p 8 (.p 9 (.x 10 (.x 11 (.p 12 .nil) .none) .none)))) (.x 10 (.x 6 (.p 7 (.p 8 (.p 9 (.x 11 (.p 12 .nil) .none)))) .none) .none)))))))) (by kernel_rfl) ?_ (by kernel_rfl) ?_); (repeat (with_reducible first | exact PanicFree.body | exact PanicFree.np | exact PanicFree.lvS | apply PanicFree.then_ | apply PanicFree.blk)))
    | ((with_reducible apply J.pl2); exact rfl; (first | exact Gd.none | ((with_reducible apply Gd.on); exact rfl; exact rfl)); (repeat (first | (with_reducible exact PendF.nil) | ((with_reducible apply PendF.keep); exact rfl) | ((with_reducible apply PendF.gone); exact rfl))))
    | ((with_reducible apply J.pl2_off); exact rfl; ((with_reducible apply Gd.off); exact rfl; exact rfl; exact rfl); exact rfl; (repeat (first | (with_reducible exact PendF.nil) | ((with_reducible apply PendF.keep); exact rfl) | ((with_reducible apply PendF.gone); exact rfl))))
    | ((with_reducible apply J.pl2_off_none); exact rfl; ((with_reducible apply Gd.off); exact rfl; exact rfl; exact rfl); (repeat (first | (with_reducible exact PendF.nil) | ((with_reducible apply PendF.keep); exact rfl) | ((with_reducible apply PendF.gone); exact rfl))))
    | ((with_reducible first | apply J.psplit0 | apply J.psplit1 | apply J.psplit2); exact rfl; exact rfl; exact rfl)
    | (with_reducible exact J.pl_none)
    | ((with_reducible apply J.gsplit); exact rfl; exact rfl)
    | ((with_reducible first | apply J.cond | apply JC.cond); exact rfl)
    | (intro h; exfalso; fail)
    | (intro h; (try simp only [decide_eq_true_eq, decide_eq_false_iff_not, beq_iff_eq, beq_eq_false_iff_ne, Bool.not_eq_true', Bool.not_eq_false', bne_iff_ne, bne_eq_false_iff_eq, ne_eq, ge_iff_le, gt_iff_lt] at h))
    | (with_reducible apply J.gave')
    | ((with_reducible apply J.kept'); rotate_left; (repeat (first | (with_reducible exact Outs.nil) | ((with_reducible apply Outs.cons); (repeat (first | with_reducible exact Out.here | with_reducible apply Out.there))))))
  all_goals
    first
    | ((with_reducible apply J.fine); assumption; exact rfl; (repeat (first | (with_reducible exact Outs.nil) | ((with_reducible apply Outs.cons); (repeat (first | with_reducible exact Out.here | with_reducible apply Out.there))))))
    | ((with_reducible apply J.stops); assumption; exact rfl)
    | ((with_reducible apply J.stops0); assumption; exact rfl)
    | (trace_state; fail)
theorem put_ (b off : Nat) (C : List Value) (ns : Nat → Int) (a s x : Int) (w : World) (hw : (C.drop off).take 64 = wvs ns 16 ∧ C.length = 151 ∧ off ≤ 80 ∧ (∀ j, Wd (ns j)) ∧ Wd x) : CSpec Tryz.prog 137 [.pointer (some ⟨b, off, none⟩), .int .i64 a, .int .i64 s, .agg (wv x).toArray] [blk b C 34] w (RE (gvR ns a s x).2 (.tuple #[]) [blk b (splice C off (wvs (gvR ns a s x).1 16)) 34]) := by
  obtain ⟨hC, hl, ho, hws, hx⟩ := hw
  refine spec_of Tryz.func137 rfl Tryz.ntmps137 rfl (l0 := [(0, .pointer (some ⟨b, off, none⟩)), (1, .int .i64 a), (2, .int .i64 s), (3, .agg (wv x).toArray)]) rfl ?_
  intro fp
  repeat' first
    | (with_reducible first | apply J.then_panic | apply J.blk_panic | apply J.sco_panic)
    | ((with_reducible apply J.panic); exact rfl)
    | (refine J.qr ?_; (with_reducible apply exq); focus (first
      | ((with_reducible apply Qr.loadFull); exact rfl; (repeat (first | with_reducible exact In.here | with_reducible apply In.there)); (exact wvs_length _ _))
      | ((with_reducible apply Qr.loadN); exact rfl; (repeat (first | with_reducible exact In.here | with_reducible apply In.there)); exact hC; exact wvs_length _ _)))
    | (refine J.qo ?_; refine ⟨?_, ?_⟩; focus (first
      | ((with_reducible apply Qr.loadFull); exact rfl; (repeat (first | with_reducible exact In.here | with_reducible apply In.there)); (exact wvs_length _ _))
      | ((with_reducible apply Qr.loadN); exact rfl; (repeat (first | with_reducible exact In.here | with_reducible apply In.there)); exact hC; exact wvs_length _ _)))
    | ((with_reducible apply J.storeFull); exact rfl; exact rfl; (repeat (first | with_reducible exact Upd.here | with_reducible apply Upd.there)); (exact wvs_length _ _); (focus (first | exact wvs_length _ _ | kernel_rfl)); (exact wvs_ones _ _))
    | ((with_reducible apply J.storeN); exact rfl; exact rfl; (repeat (first | with_reducible exact Upd.here | with_reducible apply Upd.there)); exact rfl; exact wvs_length _ _; (focus (rw [hl]; omega)); exact wvs_ones _ _)
    | ((with_reducible apply J.givesP (give _ _ _ _)); exact rfl; exact rfl; exact ⟨hws, hx⟩)
    | ((with_reducible apply J.retER (check_ _)); exact rfl; exact rfl; exact RH.of trivial)
    | refine J.one ?_
    | refine J.loudS ?_
    | (refine J.loudQ ?_; intro _ _)
    | (refine J.loudB ?_; intro _)
    | (with_reducible apply J.list)
    | ((with_reducible apply J.draw (id := 1) [0, 1, 3, 0, 0, 0, 63, 127, 255, 255, 0, 1535, 4095] (.p 0 (.p 1 (.q 2 (.p 3 (.p 4 (.q 5 (.x 6 (.p 7 (.p 8 (.p 9 (.x 10 (.x 11 (.p 12 .nil) .none) .none)))) (.x 10 (.x 6 (.p 7 (.p 8 (.p 9 (.x 11 (.p 12 .nil) .none)))) .none) .none)))))))) (by kernel_rfl) ?_ (by kernel_rfl) ?_); (repeat (with_reducible first | exact PanicFree.body | exact PanicFree.np | exact PanicFree.lvS | apply PanicFree.then_ | apply PanicFree.blk)))
    | ((with_reducible apply J.pl2); exact rfl; (first | exact Gd.none | ((with_reducible apply Gd.on); exact rfl; exact rfl)); (repeat (first | (with_reducible exact PendF.nil) | ((with_reducible apply PendF.keep); exact rfl) | ((with_reducible apply PendF.gone); exact rfl))))
    | ((with_reducible apply J.pl2_off); exact rfl; ((with_reducible apply Gd.off); exact rfl; exact rfl; exact rfl); exact rfl; (repeat (first | (with_reducible exact PendF.nil) | ((with_reducible apply PendF.keep); exact rfl) | ((with_reducible apply PendF.gone); exact rfl))))
    | ((with_reducible apply J.pl2_off_none); exact rfl; ((with_reducible apply Gd.off); exact rfl; exact rfl; exact rfl); (repeat (first | (with_reducible exact PendF.nil) | ((with_reducible apply PendF.keep); exact rfl) | ((with_reducible apply PendF.gone); exact rfl))))
    | ((with_reducible first | apply J.psplit0 | apply J.psplit1 | apply J.psplit2); exact rfl; exact rfl; exact rfl)
    | (with_reducible exact J.pl_none)
    | ((with_reducible apply J.gsplit); exact rfl; exact rfl)
    | ((with_reducible first | apply J.cond | apply JC.cond); exact rfl)
    | (intro h; exfalso; fail)
    | (intro h; (try simp only [decide_eq_true_eq, decide_eq_false_iff_not, beq_iff_eq, beq_eq_false_iff_ne, Bool.not_eq_true', Bool.not_eq_false', bne_iff_ne, bne_eq_false_iff_eq, ne_eq, ge_iff_le, gt_iff_lt] at h))
    | (with_reducible apply J.gave')
    | ((with_reducible apply J.kept'); rotate_left; (repeat (first | (with_reducible exact Outs.nil) | ((with_reducible apply Outs.cons); (repeat (first | with_reducible exact Out.here | with_reducible apply Out.there))))))
  all_goals
    first
    | ((with_reducible apply J.fine); assumption; exact rfl; (repeat (first | (with_reducible exact Outs.nil) | ((with_reducible apply Outs.cons); (repeat (first | with_reducible exact Out.here | with_reducible apply Out.there))))))
    | ((with_reducible apply J.stops); assumption; exact rfl)
    | ((with_reducible apply J.stops0); assumption; exact rfl)
    | (trace_state; fail)
def ovf (b : Bool) : Int := if b = true then 0 else 38
/-- More is held; less is held. -/
abbrev holdS (s : SS) (a : Int) (x : Int) : SS := { s with he := upd s.he a.toNat (wadd (s.he a.toNat) x) }
abbrev freeS (s : SS) (a : Int) (x : Int) : SS := { s with he := upd s.he a.toNat (wsub (s.he a.toNat) x) }
theorem hold_ (b : Nat) (s : SS) (lv : Value) (a x : Int) (w : World) (hw : 0 ≤ a ∧ a ≤ 1 ∧ (∀ j, Wd (s.he j)) ∧ Wd x) : CSpec Tryz.prog 138 [.pointer (some ⟨b, 0, none⟩), .int .i64 a, .agg (wv x).toArray] [blk b (s.cells lv) 34] w (RE (if (s.he a.toNat + x < 115792089237316195423570985008687907853269984665640564039457584007913129639936) then 0 else 38) (.tuple #[]) [blk b ((holdS s a x).cells lv) 34]) := by
  obtain ⟨h0, h1, hws, hx⟩ := hw
  refine spec_of Tryz.func138 rfl Tryz.ntmps138 rfl (l0 := [(0, .pointer (some ⟨b, 0, none⟩)), (1, .int .i64 a), (2, .agg (wv x).toArray)]) rfl ?_
  intro fp
  repeat' first
    | (with_reducible first | apply J.then_panic | apply J.blk_panic | apply J.sco_panic)
    | ((with_reducible apply J.panic); exact rfl)
    | (refine J.qv ?_; (with_reducible apply exq); focus (first
      | ((with_reducible apply Qv.indexArr); exact rfl; exact rfl; (constructor <;> omega); exact rfl)))
    | (refine J.qr ?_; (with_reducible apply exq); focus (first
      | ((with_reducible apply Qr.ldHe); exact rfl; (repeat (first | with_reducible exact In.here | with_reducible apply In.there)); exact h0; exact h1)))
    | (refine J.qo ?_; refine ⟨?_, ?_⟩; focus (first
      | ((with_reducible apply Qr.ldHe); exact rfl; (repeat (first | with_reducible exact In.here | with_reducible apply In.there)); exact h0; exact h1)))
    | ((with_reducible apply J.stHe h0 h1); exact rfl; exact rfl; (repeat (first | with_reducible exact Upd.here | with_reducible apply Upd.there)))
    | ((with_reducible apply J.givesP (add _ _)); exact rfl; exact rfl; exact ⟨hws _, hx⟩)
    | ((with_reducible apply J.retER (needP_ _ _ _)); exact rfl; exact rfl; exact RH.of (by decide))
    | refine J.one ?_
    | refine J.loudS ?_
    | (refine J.loudQ ?_; intro _ _)
    | (refine J.loudB ?_; intro _)
    | (with_reducible apply J.list)
    | ((with_reducible apply J.draw (id := 1) [0, 0, 1, 5, 15, 31, 0, 127, 255, 511, 511, 0, 3071, 8191] (.p 0 (.p 1 (.p 2 (.p 3 (.p 4 (.q 5 (.q 6 (.x 7 (.p 8 (.p 9 (.p 10 (.x 11 (.x 12 (.p 13 .nil) .none) .none)))) (.x 11 (.x 7 (.p 8 (.p 9 (.p 10 (.x 12 (.p 13 .nil) .none)))) .none) .none))))))))) (by kernel_rfl) ?_ (by kernel_rfl) ?_); (repeat (with_reducible first | exact PanicFree.body | exact PanicFree.np | exact PanicFree.lvS | apply PanicFree.then_ | apply PanicFree.blk)))
    | ((with_reducible apply J.draw (id := 3) [0, 0, 0, 1, 9, 31, 63] (.p 0 (.p 1 (.q 2 (.p 3 (.p 4 (.p 5 (.x 6 .nil .none))))))) (by kernel_rfl) ?_ (by kernel_rfl) ?_); (repeat (with_reducible first | exact PanicFree.body | exact PanicFree.np | exact PanicFree.lvS | apply PanicFree.then_ | apply PanicFree.blk)))
    | ((with_reducible apply J.pl2); exact rfl; (first | exact Gd.none | ((with_reducible apply Gd.on); exact rfl; exact rfl)); (repeat (first | (with_reducible exact PendF.nil) | ((with_reducible apply PendF.keep); exact rfl) | ((with_reducible apply PendF.gone); exact rfl))))
    | ((with_reducible apply J.pl2_off); exact rfl; ((with_reducible apply Gd.off); exact rfl; exact rfl; exact rfl); exact rfl; (repeat (first | (with_reducible exact PendF.nil) | ((with_reducible apply PendF.keep); exact rfl) | ((with_reducible apply PendF.gone); exact rfl))))
    | ((with_reducible apply J.pl2_off_none); exact rfl; ((with_reducible apply Gd.off); exact rfl; exact rfl; exact rfl); (repeat (first | (with_reducible exact PendF.nil) | ((with_reducible apply PendF.keep); exact rfl) | ((with_reducible apply PendF.gone); exact rfl))))
    | ((with_reducible first | apply J.psplit0 | apply J.psplit1 | apply J.psplit2); exact rfl; exact rfl; exact rfl)
    | (with_reducible exact J.pl_none)
    | ((with_reducible apply J.gsplit); exact rfl; exact rfl)
    | ((with_reducible first | apply J.cond | apply JC.cond); exact rfl)
    | (intro h; exfalso; fail)
    | (intro h; (try simp only [decide_eq_true_eq, decide_eq_false_iff_not, beq_iff_eq, beq_eq_false_iff_ne, Bool.not_eq_true', Bool.not_eq_false', bne_iff_ne, bne_eq_false_iff_eq, ne_eq, ge_iff_le, gt_iff_lt] at h))
    | (with_reducible apply J.gave')
    | ((with_reducible apply J.kept'); rotate_left; (repeat (first | (with_reducible exact Outs.nil) | ((with_reducible apply Outs.cons); (repeat (first | with_reducible exact Out.here | with_reducible apply Out.there))))))
  all_goals
    first
    | ((with_reducible apply J.fine); assumption; exact rfl; (repeat (first | (with_reducible exact Outs.nil) | ((with_reducible apply Outs.cons); (repeat (first | with_reducible exact Out.here | with_reducible apply Out.there))))))
    | ((with_reducible apply J.stops); assumption; exact rfl)
    | ((with_reducible apply J.stops0); assumption; exact rfl)
    | (trace_state; fail)
theorem free_ (b : Nat) (s : SS) (lv : Value) (a x : Int) (w : World) (hw : 0 ≤ a ∧ a ≤ 1 ∧ (∀ j, Wd (s.he j)) ∧ Wd x) : CSpec Tryz.prog 141 [.pointer (some ⟨b, 0, none⟩), .int .i64 a, .agg (wv x).toArray] [blk b (s.cells lv) 34] w (RE (if (x ≤ s.he a.toNat) then 0 else 38) (.tuple #[]) [blk b ((freeS s a x).cells lv) 34]) := by
  obtain ⟨h0, h1, hws, hx⟩ := hw
  refine spec_of Tryz.func141 rfl Tryz.ntmps141 rfl (l0 := [(0, .pointer (some ⟨b, 0, none⟩)), (1, .int .i64 a), (2, .agg (wv x).toArray)]) rfl ?_
  intro fp
  repeat' first
    | (with_reducible first | apply J.then_panic | apply J.blk_panic | apply J.sco_panic)
    | ((with_reducible apply J.panic); exact rfl)
    | (refine J.qv ?_; (with_reducible apply exq); focus (first
      | ((with_reducible apply Qv.indexArr); exact rfl; exact rfl; (constructor <;> omega); exact rfl)))
    | (refine J.qr ?_; (with_reducible apply exq); focus (first
      | ((with_reducible apply Qr.ldHe); exact rfl; (repeat (first | with_reducible exact In.here | with_reducible apply In.there)); exact h0; exact h1)))
    | (refine J.qo ?_; refine ⟨?_, ?_⟩; focus (first
      | ((with_reducible apply Qr.ldHe); exact rfl; (repeat (first | with_reducible exact In.here | with_reducible apply In.there)); exact h0; exact h1)))
    | ((with_reducible apply J.stHe h0 h1); exact rfl; exact rfl; (repeat (first | with_reducible exact Upd.here | with_reducible apply Upd.there)))
    | ((with_reducible apply J.givesP (sub _ _)); exact rfl; exact rfl; exact ⟨hws _, hx⟩)
    | ((with_reducible apply J.retER (needP_ _ _ _)); exact rfl; exact rfl; exact RH.of (by decide))
    | refine J.one ?_
    | refine J.loudS ?_
    | (refine J.loudQ ?_; intro _ _)
    | (refine J.loudB ?_; intro _)
    | (with_reducible apply J.list)
    | ((with_reducible apply J.draw (id := 1) [0, 0, 1, 5, 15, 31, 0, 127, 255, 511, 511, 0, 3071, 8191] (.p 0 (.p 1 (.p 2 (.p 3 (.p 4 (.q 5 (.q 6 (.x 7 (.p 8 (.p 9 (.p 10 (.x 11 (.x 12 (.p 13 .nil) .none) .none)))) (.x 11 (.x 7 (.p 8 (.p 9 (.p 10 (.x 12 (.p 13 .nil) .none)))) .none) .none))))))))) (by kernel_rfl) ?_ (by kernel_rfl) ?_); (repeat (with_reducible first | exact PanicFree.body | exact PanicFree.np | exact PanicFree.lvS | apply PanicFree.then_ | apply PanicFree.blk)))
    | ((with_reducible apply J.draw (id := 3) [0, 0, 0, 1, 9, 31, 63] (.p 0 (.p 1 (.q 2 (.p 3 (.p 4 (.p 5 (.x 6 .nil .none))))))) (by kernel_rfl) ?_ (by kernel_rfl) ?_); (repeat (with_reducible first | exact PanicFree.body | exact PanicFree.np | exact PanicFree.lvS | apply PanicFree.then_ | apply PanicFree.blk)))
    | ((with_reducible apply J.pl2); exact rfl; (first | exact Gd.none | ((with_reducible apply Gd.on); exact rfl; exact rfl)); (repeat (first | (with_reducible exact PendF.nil) | ((with_reducible apply PendF.keep); exact rfl) | ((with_reducible apply PendF.gone); exact rfl))))
    | ((with_reducible apply J.pl2_off); exact rfl; ((with_reducible apply Gd.off); exact rfl; exact rfl; exact rfl); exact rfl; (repeat (first | (with_reducible exact PendF.nil) | ((with_reducible apply PendF.keep); exact rfl) | ((with_reducible apply PendF.gone); exact rfl))))
    | ((with_reducible apply J.pl2_off_none); exact rfl; ((with_reducible apply Gd.off); exact rfl; exact rfl; exact rfl); (repeat (first | (with_reducible exact PendF.nil) | ((with_reducible apply PendF.keep); exact rfl) | ((with_reducible apply PendF.gone); exact rfl))))
    | ((with_reducible first | apply J.psplit0 | apply J.psplit1 | apply J.psplit2); exact rfl; exact rfl; exact rfl)
    | (with_reducible exact J.pl_none)
    | ((with_reducible apply J.gsplit); exact rfl; exact rfl)
    | ((with_reducible first | apply J.cond | apply JC.cond); exact rfl)
    | (intro h; exfalso; fail)
    | (intro h; (try simp only [decide_eq_true_eq, decide_eq_false_iff_not, beq_iff_eq, beq_eq_false_iff_ne, Bool.not_eq_true', Bool.not_eq_false', bne_iff_ne, bne_eq_false_iff_eq, ne_eq, ge_iff_le, gt_iff_lt] at h))
    | (with_reducible apply J.gave')
    | ((with_reducible apply J.kept'); rotate_left; (repeat (first | (with_reducible exact Outs.nil) | ((with_reducible apply Outs.cons); (repeat (first | with_reducible exact Out.here | with_reducible apply Out.there))))))
  all_goals
    first
    | ((with_reducible apply J.fine); assumption; exact rfl; (repeat (first | (with_reducible exact Outs.nil) | ((with_reducible apply Outs.cons); (repeat (first | with_reducible exact Out.here | with_reducible apply Out.there))))))
    | ((with_reducible apply J.stops); assumption; exact rfl)
    | ((with_reducible apply J.stops0); assumption; exact rfl)
    | (trace_state; fail)
end Go.Proofs.YtljbedladifgmaaGreat.Esc
namespace Go.Proofs.YtljbedladifgmaaGreat.Vau
open Go Go.RowKit Eng
set_option linter.unusedVariables false
set_option maxRecDepth 100000
set_option linter.unusedSimpArgs false
open Wide Purse Tx Sha Ss Esc Deal Mss Ots Hash Bytes
set_option maxHeartbeats 1000000
theorem needE_ (x c e : Int) (w : World) (hw : e ≠ 0) : CSpec Tryz.prog 139 [.bool (x == c), .int .i64 e] [] w (RE (if x = c then 0 else e) (.tuple #[]) []) := by
  have h := need_ (x == c) e w hw
  by_cases hp : x = c <;> simpa [hp] using h
abbrev vaultS (s : SS) (r a x : Int) : SS := { s with va := (tkR s.va r a x).1 }
theorem vault_ (b : Nat) (s : SS) (lv : Value) (r a x : Int) (w : World) (hw : (∀ j, Wd (s.va j)) ∧ Wd x) : CSpec Tryz.prog 140 [.pointer (some ⟨b, 0, none⟩), .int .i64 r, .int .i64 a, .agg (wv x).toArray] [blk b (s.cells lv) 34] w (RE (if (tkR s.va r a x).2 = 0 then 0 else 31) (.tuple #[]) [blk b ((vaultS s r a x).cells lv) 34]) := by
  obtain ⟨hws, hx⟩ := hw
  refine spec_of Tryz.func140 rfl Tryz.ntmps140 rfl (l0 := [(0, .pointer (some ⟨b, 0, none⟩)), (1, .int .i64 r), (2, .int .i64 a), (3, .agg (wv x).toArray)]) rfl ?_
  intro fp
  repeat' first
    | (with_reducible first | apply J.then_panic | apply J.blk_panic | apply J.sco_panic)
    | ((with_reducible apply J.panic); exact rfl)
    | (refine J.qr ?_; (with_reducible apply exq); focus (first
      | ((with_reducible apply Qr.loadFull); exact rfl; (repeat (first | with_reducible exact In.here | with_reducible apply In.there)); (exact wvs_length _ _))
      | ((with_reducible apply Qr.ldVa); exact rfl; (repeat (first | with_reducible exact In.here | with_reducible apply In.there)))))
    | (refine J.qo ?_; refine ⟨?_, ?_⟩; focus (first
      | ((with_reducible apply Qr.loadFull); exact rfl; (repeat (first | with_reducible exact In.here | with_reducible apply In.there)); (exact wvs_length _ _))
      | ((with_reducible apply Qr.ldVa); exact rfl; (repeat (first | with_reducible exact In.here | with_reducible apply In.there)))))
    | ((with_reducible apply J.storeFull); exact rfl; exact rfl; (repeat (first | with_reducible exact Upd.here | with_reducible apply Upd.there)); (exact wvs_length _ _); (focus (first | exact wvs_length _ _ | kernel_rfl)); (exact wvs_ones _ _))
    | ((with_reducible apply J.stVa); exact rfl; exact rfl; (repeat (first | with_reducible exact Upd.here | with_reducible apply Upd.there)))
    | ((with_reducible apply J.givesP (take _ _ _ _)); exact rfl; exact rfl; exact ⟨hws, hx⟩)
    | ((with_reducible apply J.retER (needE_ _ _ _)); exact rfl; exact rfl; exact RH.of (by decide))
    | refine J.one ?_
    | refine J.loudS ?_
    | (refine J.loudQ ?_; intro _ _)
    | (refine J.loudB ?_; intro _)
    | (with_reducible apply J.list)
    | ((with_reducible apply J.draw (id := 1) [0, 1, 3, 7, 0, 0, 0, 127, 255, 511, 511, 0, 3071, 8191] (.p 0 (.p 1 (.p 2 (.q 3 (.p 4 (.p 5 (.q 6 (.x 7 (.p 8 (.p 9 (.p 10 (.x 11 (.x 12 (.p 13 .nil) .none) .none)))) (.x 11 (.x 7 (.p 8 (.p 9 (.p 10 (.x 12 (.p 13 .nil) .none)))) .none) .none))))))))) (by kernel_rfl) ?_ (by kernel_rfl) ?_); (repeat (with_reducible first | exact PanicFree.body | exact PanicFree.np | exact PanicFree.lvS | apply PanicFree.then_ | apply PanicFree.blk)))
    | ((with_reducible apply J.pl2); exact rfl; (first | exact Gd.none | ((with_reducible apply Gd.on); exact rfl; exact rfl)); (repeat (first | (with_reducible exact PendF.nil) | ((with_reducible apply PendF.keep); exact rfl) | ((with_reducible apply PendF.gone); exact rfl))))
    | ((with_reducible apply J.pl2_off); exact rfl; ((with_reducible apply Gd.off); exact rfl; exact rfl; exact rfl); exact rfl; (repeat (first | (with_reducible exact PendF.nil) | ((with_reducible apply PendF.keep); exact rfl) | ((with_reducible apply PendF.gone); exact rfl))))
    | ((with_reducible apply J.pl2_off_none); exact rfl; ((with_reducible apply Gd.off); exact rfl; exact rfl; exact rfl); (repeat (first | (with_reducible exact PendF.nil) | ((with_reducible apply PendF.keep); exact rfl) | ((with_reducible apply PendF.gone); exact rfl))))
    | ((with_reducible first | apply J.psplit0 | apply J.psplit1 | apply J.psplit2); exact rfl; exact rfl; exact rfl)
    | (with_reducible exact J.pl_none)
    | ((with_reducible apply J.gsplit); exact rfl; exact rfl)
    | ((with_reducible first | apply J.cond | apply JC.cond); exact rfl)
    | (intro h; exfalso; fail)
    | (intro h; (try simp only [decide_eq_true_eq, decide_eq_false_iff_not, beq_iff_eq, beq_eq_false_iff_ne, Bool.not_eq_true', Bool.not_eq_false', bne_iff_ne, bne_eq_false_iff_eq, ne_eq, ge_iff_le, gt_iff_lt] at h))
    | (with_reducible apply J.gave')
    | ((with_reducible apply J.kept'); rotate_left; (repeat (first | (with_reducible exact Outs.nil) | ((with_reducible apply Outs.cons); (repeat (first | with_reducible exact Out.here | with_reducible apply Out.there))))))
  all_goals
    first
    | ((with_reducible apply J.fine); assumption; exact rfl; (repeat (first | (with_reducible exact Outs.nil) | ((with_reducible apply Outs.cons); (repeat (first | with_reducible exact Out.here | with_reducible apply Out.there))))))
    | ((with_reducible apply J.stops); assumption; exact rfl)
    | ((with_reducible apply J.stops0); assumption; exact rfl)
    | (trace_state; fail)
/-- A lock. -/
structure Lk where
  key : List UInt8
  dig : List UInt8
  st : Int
def Lk.cells (k : Lk) : List Value := [str k.key, str k.dig, .int .i64 k.st]
def lk0 : Lk := ⟨[], [], 0⟩
def lcs (L : List Lk) : List Value := (L.map Lk.cells).flatten
theorem lcs_length : ∀ L : List Lk, (lcs L).length = L.length * 3
  | [] => rfl
  | k :: L => by
    have h := lcs_length L
    unfold lcs at h ⊢
    rw [List.map_cons, List.flatten_cons, List.length_append, h]
    simp [Lk.cells]
    omega
theorem lcs_at : ∀ {L : List Lk} {i : Nat}, i < L.length → ((lcs L).drop (i * 3)).take 3 = (L.getD i lk0).cells
  | k :: L, 0, _ => by simp [lcs, Lk.cells]
  | k :: L, i + 1, h => by
    have h2 := lcs_at (L := L) (i := i) (by simpa using h)
    have e : (lcs (k :: L)).drop ((i + 1) * 3) = (lcs L).drop (i * 3) := by
      rw [show (i + 1) * 3 = 3 + i * 3 by omega, ← List.drop_drop]
      rfl
    rw [e, h2]
    rfl
theorem lcs_ones : ∀ L : List Lk, (lcs L).all (·.oneCell') = true
  | [] => rfl
  | k :: L => by
    have h := lcs_ones L
    unfold lcs at h ⊢
    rw [List.map_cons, List.flatten_cons, List.all_append, h]
    rfl
/-- Which lock is the first one of a key; -1: none. -/
abbrev plc (L : List Lk) (key : List UInt8) : Int := findI (fun i => decide ((L.getD i lk0).key = key)) L.length
theorem place1 (k : Lk) (B : Nat) (key : List UInt8) (w : World) (hw : Rd w (some ⟨B, 0, none⟩) [str key]) : CSpec Tryz.prog 96 [.agg k.cells.toArray, .pointer (some ⟨B, 0, none⟩)] [] w (Gives (.bool (decide (k.key = key)))) := by
  have hr := hw
  refine spec_own0 Tryz.func96 rfl Tryz.ntmps96 rfl (l0 := [(0, .agg k.cells.toArray), (1, .pointer (some ⟨B, 0, none⟩))]) rfl ?_
  repeat' first
    | (refine J.qr ?_; (with_reducible apply exq); focus (first
      | ((with_reducible apply Qr.rd1 (ao := some ⟨B, 0, none⟩) (C := [str key]) (j := 0)); exact rfl; exact RH.old hr; exact rfl)))
    | refine J.one ?_
    | refine J.loudS ?_
    | (refine J.loudQ ?_; intro _ _)
    | (refine J.loudB ?_; intro _)
    | (with_reducible apply J.list)
    | ((with_reducible apply J.gsplit); exact rfl; exact rfl)
    | ((with_reducible first | apply J.cond | apply JC.cond); exact rfl)
    | (intro h; exfalso; fail)
    | (intro h; (try simp only [decide_eq_true_eq, decide_eq_false_iff_not, beq_iff_eq, beq_eq_false_iff_ne, Bool.not_eq_true', Bool.not_eq_false', bne_iff_ne, bne_eq_false_iff_eq, ne_eq, ge_iff_le, gt_iff_lt] at h))
    | (with_reducible apply J.gave')
    | ((with_reducible apply J.kept'); rotate_left; (repeat (first | (with_reducible exact Outs.nil) | ((with_reducible apply Outs.cons); (repeat (first | with_reducible exact Out.here | with_reducible apply Out.there))))))
  all_goals (rfl)
theorem idx_lock (ao : Option Addr) (n cap : Nat) (C : List Value) (N fb : Nat) (cs : List Value) (x : Nat → List Value) (p : Nat → Bool) [Eng.Enters Tryz.prog fb] (w : World) (hw : Rd w ao C ∧ n = N ∧ C.length = N * 3 ∧ N ≤ maxLen ∧ (∀ i, i < N → (C.drop (i * 3)).take 3 = x i ∧ (x i).length = 3) ∧ ∀ i, i < N → ∀ w2, Fr w [] w2 → CSpec Tryz.prog fb (.agg (x i).toArray :: cs) [] w2 (Gives (.bool (p i)))) : CSpec Tryz.prog 95 [.slice ao n cap, fnv fb cs] [] w (Gives (.int .i64 (findI p N))) := by
  obtain ⟨hr, rfl, hCl, hm, hC, hp⟩ := hw
  refine spec_own0 Tryz.func95 rfl Tryz.ntmps95 rfl (l0 := [(0, .slice ao n cap), (1, fnv fb cs)]) rfl ?_
  repeat' first
    | refine J.one ?_
    | refine J.loudS ?_
    | (refine J.loudQ ?_; intro _ _)
    | (refine J.loudB ?_; intro _)
    | (with_reducible apply J.list)
    | ((with_reducible apply J.gsplit); exact rfl; exact rfl)
    | ((with_reducible first | apply J.cond | apply JC.cond); exact rfl)
    | (intro h; exfalso; fail)
    | (intro h; (try simp only [decide_eq_true_eq, decide_eq_false_iff_not, beq_iff_eq, beq_eq_false_iff_ne, Bool.not_eq_true', Bool.not_eq_false', bne_iff_ne, bne_eq_false_iff_eq, ne_eq, ge_iff_le, gt_iff_lt] at h))
    | (with_reducible apply J.gave')
    | ((with_reducible apply J.kept'); rotate_left; (repeat (first | (with_reducible exact Outs.nil) | ((with_reducible apply Outs.cons); (repeat (first | with_reducible exact Out.here | with_reducible apply Out.there))))))
  apply J.loopI (σ := Nat) (I := fun q => (q ≤ n ∧ ∀ j, j < q → p j = false)) (L := fun q => [(0, .slice ao n cap), (1, fnv fb cs), (6, .slice ao n cap), (7, .int .i64 (n : Int)), (8, .int .i64 (q : Int))]) (HH := fun q => []) (m := fun q => n - q) (s0 := 0)
  · ((try dsimp only); (exact ⟨Nat.zero_le _, fun j hj => absurd hj (Nat.not_lt_zero _)⟩))
  · ((try dsimp only); repeat (first | exact sub.nil _ | (refine sub.consE rfl ?_ ?_; (first | with_reducible rfl | (fail) | rfl))))
  · ((try dsimp only); (repeat (first | (with_reducible exact Outs.nil) | ((with_reducible apply Outs.cons); (repeat (first | with_reducible exact Out.here | with_reducible apply Out.there))))))
  rintro i ⟨hI, hno⟩
  try dsimp only at *
  have hm2 := hm
  simp only [maxLen] at hm2
  rcases Nat.lt_or_ge i n with hlt | hge
  · skip
    repeat' first
      | (refine J.qr ?_; (with_reducible apply exq); focus (first
        | ((with_reducible apply Qr.indexRd (k := i) (C := C)); exact rfl; exact rfl; exact rfl; omega; exact RH.old hr; omega)
        | ((with_reducible apply Qr.rdN (C := C)); exact rfl; exact RH.old hr; exact (hC i hlt).1; exact (hC i hlt).2)))
      | ((with_reducible apply J.callV (f := fb) (cs := cs)); exact rfl; exact rfl; exact rfl; exact fun w2 s2 => hp i hlt w2 s2.fr)
      | refine J.one ?_
      | refine J.loudS ?_
      | (refine J.loudQ ?_; intro _ _)
      | (refine J.loudB ?_; intro _)
      | (with_reducible apply J.list)
      | ((with_reducible apply J.gsplit); exact rfl; exact rfl)
      | ((with_reducible first | apply J.cond | apply JC.cond); exact rfl)
      | (intro h; exfalso; (first | (simp at h; done) | (simp at h; omega) | omega))
      | (intro h; (try simp only [decide_eq_true_eq, decide_eq_false_iff_not, beq_iff_eq, beq_eq_false_iff_ne, Bool.not_eq_true', Bool.not_eq_false', bne_iff_ne, bne_eq_false_iff_eq, ne_eq, ge_iff_le, gt_iff_lt] at h))
      | (with_reducible apply J.gave')
      | ((with_reducible apply J.kept'); rotate_left; (repeat (first | (with_reducible exact Outs.nil) | ((with_reducible apply Outs.cons); (repeat (first | with_reducible exact Out.here | with_reducible apply Out.there))))))
    all_goals
      first
      | (simp only [retv]; rw [findI_at hlt (by assumption) hno]; done)
      | (apply J.againI (s := i) (s' := (i + 1)); (focus (omega)); (focus ((try dsimp only); exact ⟨by omega, fun j hj => (Nat.lt_or_ge j i).elim (hno j) fun h9 => (show j = i from Nat.le_antisymm (Nat.le_of_lt_succ hj) h9).symm ▸ h⟩)); (focus (((try dsimp only); repeat (first | exact sub.nil _ | (refine sub.consE rfl ?_ ?_; (first | with_reducible rfl | ((focus (congr 1; omega))) | rfl)))))); ((try dsimp only); (repeat (first | (with_reducible exact Outs.nil) | ((with_reducible apply Outs.cons); (repeat (first | with_reducible exact Out.here | with_reducible apply Out.there)))))))
      | (trace_state; fail)
  · obtain rfl : i = n := by omega
    repeat' first
      | (refine J.qr ?_; (with_reducible apply exq); focus (first
        | ((with_reducible apply Qr.indexRd (k := i) (C := C)); exact rfl; exact rfl; exact rfl; omega; exact RH.old hr; omega)
        | ((with_reducible apply Qr.rdN (C := C)); exact rfl; exact RH.old hr; exact (hC i hlt).1; exact (hC i hlt).2)))
      | ((with_reducible apply J.callV (f := fb) (cs := cs)); exact rfl; exact rfl; exact rfl; exact fun w2 s2 => hp i hlt w2 s2.fr)
      | refine J.one ?_
      | refine J.loudS ?_
      | (refine J.loudQ ?_; intro _ _)
      | (refine J.loudB ?_; intro _)
      | (with_reducible apply J.list)
      | ((with_reducible apply J.gsplit); exact rfl; exact rfl)
      | ((with_reducible first | apply J.cond | apply JC.cond); exact rfl)
      | (intro h; exfalso; (first | (simp at h; done) | (simp at h; omega) | omega))
      | (intro h; (try simp only [decide_eq_true_eq, decide_eq_false_iff_not, beq_iff_eq, beq_eq_false_iff_ne, Bool.not_eq_true', Bool.not_eq_false', bne_iff_ne, bne_eq_false_iff_eq, ne_eq, ge_iff_le, gt_iff_lt] at h))
      | (with_reducible apply J.gave')
      | ((with_reducible apply J.kept'); rotate_left; (repeat (first | (with_reducible exact Outs.nil) | ((with_reducible apply Outs.cons); (repeat (first | with_reducible exact Out.here | with_reducible apply Out.there))))))
    all_goals
      first
      | (simp only [retv]; rw [findI_none hno]; done)
      | (trace_state; fail)
theorem place_ (b : Nat) (s : SS) (ao : Option Addr) (n cap : Nat) (L : List Lk) (key : List UInt8) (w : World) (hw : (Rd w (some ⟨b, 0, none⟩) (s.cells (.slice ao n cap)) ∧ Rd w ao (lcs L)) ∧ n = L.length ∧ L.length ≤ maxLen) : CSpec Tryz.prog 57 [.pointer (some ⟨b, 0, none⟩), str key] [] w (Gives (.int .i64 (plc L key))) := by
  obtain ⟨⟨hS, hL⟩, rfl, hm⟩ := hw
  refine spec_own0 Tryz.func57 rfl Tryz.ntmps57 rfl (l0 := [(0, .pointer (some ⟨b, 0, none⟩)), (1, str key)]) rfl ?_
  repeat' first
    | (refine J.qr ?_; (with_reducible apply exq); focus (first
      | ((with_reducible apply Qr.rd1 (ao := some ⟨b, 0, none⟩) (C := s.cells (.slice ao L.length cap)) (j := 150)); exact rfl; exact RH.old hS; exact s.g7 _)))
    | ((with_reducible apply J.givesR (idx_lock _ _ _ (lcs L) L.length 96 _ (fun i => (L.getD i lk0).cells) (fun i => decide ((L.getD i lk0).key = key)))); exact rfl; exact rfl; focus (exact fun w2 s2 => ⟨RH.old hL w2 s2, rfl, lcs_length L, hm, fun i hi => ⟨lcs_at hi, rfl⟩, fun i hi w3 f3 => place1 _ _ _ w3 (Rd.kept (RH.blk0 (by (repeat (first | with_reducible exact In.here | with_reducible apply In.there))) w2 s2) f3)⟩))
    | refine J.one ?_
    | refine J.loudS ?_
    | (refine J.loudQ ?_; intro _ _)
    | (refine J.loudB ?_; intro _)
    | (with_reducible apply J.list)
    | ((with_reducible apply J.gsplit); exact rfl; exact rfl)
    | ((with_reducible first | apply J.cond | apply JC.cond); exact rfl)
    | (intro h; exfalso; fail)
    | (intro h; (try simp only [decide_eq_true_eq, decide_eq_false_iff_not, beq_iff_eq, beq_eq_false_iff_ne, Bool.not_eq_true', Bool.not_eq_false', bne_iff_ne, bne_eq_false_iff_eq, ne_eq, ge_iff_le, gt_iff_lt] at h))
    | (with_reducible apply J.gave')
    | ((with_reducible apply J.kept'); rotate_left; (repeat (first | (with_reducible exact Outs.nil) | ((with_reducible apply Outs.cons); (repeat (first | with_reducible exact Out.here | with_reducible apply Out.there))))))
  all_goals (rfl)
/-- A transaction's key and its data's digest. -/
def keyT (t : Tx) : List UInt8 := keyF t.us t.rt t.ro t.se t.re t.to t.id
def digT (t : Tx) : List UInt8 := digF t.us t.rt t.ro t.se t.re t.to t.id t.va t.ex
/-- Is an act signed? -/
noncomputable def sgF (t : Tx) (act : Int) : Bool := (vrf t.rt (payF act (keyT t) t.fee) t.sg).2
theorem keyT_le (t : Tx) : (keyT t).length ≤ 32 := by
  unfold keyT
  rw [keyF_length]
  split <;> omega
theorem payF_le (act : Int) (k : List UInt8) (fee : Int) : (payF act k fee).length ≤ 77 := by
  unfold payF
  split
  · rename_i h
    rw [payB_length, h.2]
    omega
  · simp
theorem signed_ (t : Tx) (act : Int) (w : World) (hw : 0 ≤ t.fee) : CSpec Tryz.prog 144 [.agg t.cells.toArray, .int .i64 act] [] w (Gives (.bool (sgF t act))) := by
  have hk := keyT_le t
  have hp := payF_le act (keyT t) t.fee
  refine spec_own0 Tryz.func144 rfl Tryz.ntmps144 rfl (l0 := [(0, .agg t.cells.toArray), (1, .int .i64 act)]) rfl ?_
  repeat' first
    | ((with_reducible apply J.givesR (key_ t.us t.rt t.ro t.se t.re t.to t.id)); exact rfl; exact rfl; focus (exact RH.true_))
    | ((with_reducible apply J.freshR (payload_ act (keyT t) t.fee)); exact rfl; exact rfl; (focus ((refine RH.of ⟨hw, ?_⟩; omega))); intro _ _)
    | ((with_reducible apply J.givesR (verify_ _ _ _ _ (payF act (keyT t) t.fee) _)); exact rfl; exact rfl; focus ((refine RH.and (RH.row (by (repeat (first | with_reducible exact In.here | with_reducible apply In.there)))) (RH.of ⟨rfl, ?_⟩); omega)))
    | refine J.one ?_
    | refine J.loudS ?_
    | (refine J.loudQ ?_; intro _ _)
    | (refine J.loudB ?_; intro _)
    | (with_reducible apply J.list)
    | ((with_reducible apply J.draw (id := 1) [0, 1, 3, 0, 0, 16, 48, 0, 128, 504, 0, 1024, 4095, 8191, 16383, 16383, 32767, 131071] (.p 0 (.p 1 (.q 2 (.p 3 (.p 4 (.q 5 (.p 7 (.q 8 (.p 10 (.q 11 (.x 6 (.x 9 (.x 12 (.p 13 (.p 14 (.p 15 (.p 16 (.p 17 .nil))))) .none) .none) .none))))))))))) (by kernel_rfl) ?_ (by kernel_rfl) ?_); (repeat (with_reducible first | exact PanicFree.body | exact PanicFree.np | exact PanicFree.lvS | apply PanicFree.then_ | apply PanicFree.blk)))
    | ((with_reducible apply J.pl2); exact rfl; (first | exact Gd.none | ((with_reducible apply Gd.on); exact rfl; exact rfl)); (repeat (first | (with_reducible exact PendF.nil) | ((with_reducible apply PendF.keep); exact rfl) | ((with_reducible apply PendF.gone); exact rfl))))
    | ((with_reducible apply J.pl2_off); exact rfl; ((with_reducible apply Gd.off); exact rfl; exact rfl; exact rfl); exact rfl; (repeat (first | (with_reducible exact PendF.nil) | ((with_reducible apply PendF.keep); exact rfl) | ((with_reducible apply PendF.gone); exact rfl))))
    | ((with_reducible apply J.pl2_off_none); exact rfl; ((with_reducible apply Gd.off); exact rfl; exact rfl; exact rfl); (repeat (first | (with_reducible exact PendF.nil) | ((with_reducible apply PendF.keep); exact rfl) | ((with_reducible apply PendF.gone); exact rfl))))
    | ((with_reducible first | apply J.psplit0 | apply J.psplit1 | apply J.psplit2); exact rfl; exact rfl; exact rfl)
    | (with_reducible exact J.pl_none)
    | ((with_reducible apply J.gsplit); exact rfl; exact rfl)
    | ((with_reducible first | apply J.cond | apply JC.cond); exact rfl)
    | (intro h; exfalso; fail)
    | (intro h; (try simp only [decide_eq_true_eq, decide_eq_false_iff_not, beq_iff_eq, beq_eq_false_iff_ne, Bool.not_eq_true', Bool.not_eq_false', bne_iff_ne, bne_eq_false_iff_eq, ne_eq, ge_iff_le, gt_iff_lt] at h))
    | (with_reducible apply J.gave')
    | ((with_reducible apply J.kept'); rotate_left; (repeat (first | (with_reducible exact Outs.nil) | ((with_reducible apply Outs.cons); (repeat (first | with_reducible exact Out.here | with_reducible apply Out.there))))))
  all_goals (rfl)
end Go.Proofs.YtljbedladifgmaaGreat.Vau
