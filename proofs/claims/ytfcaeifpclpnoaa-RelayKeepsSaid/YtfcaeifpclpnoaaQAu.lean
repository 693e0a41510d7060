/-
  The steps of a walk, each as one lemma. No conditions.
-/
import Derived.Test.YtfcaeifpclpnoaaQRng
import Derived.Test.YtfcaeifpclpnoaaQSle
import Derived.Test.YtfcaeifpclpnoaaQSha
import Derived.Test.YtfcaeifpclpnoaaQTy
namespace Go.Proofs.Ytfcaeifpclpnoaa.Eng
open Go Go.RowKit
set_option linter.unusedVariables false
set_option linter.unusedSectionVars false

/-! A slice of an array; a closure -/
section
variable {P : Program} {m : Nat} {l : TL}
theorem Qv.sliceAllA {T E k b o sz : Nat} {agg : Bool} {z : List Value} {t : Nat} [j : Ar P T k E] [q : Ty P E agg sz z] (h : TL.get l t = some (.pointer (some ⟨b, o, none⟩))) : Qv P m l (.slice T (.tmp t) none none none) (.slice (some ⟨b, o, none⟩) k k) := fun a w _ _ _ _ s => by
  have h1 := s.get _ _ h
  rcases Nat.eq_zero_or_pos k with h0 | h0
  · subst h0
    simp [execOp, Act.eval, h1, Instr.sliceAt, Instr.slice, Instr.sliceBounds, Instr.sureAddr, asAddr, run_und j.und, run_size (P := P) (w := w) (T := E)]
  · have h2 : ¬ k = 0 := by omega
    have h3 : (⟨b, o, none⟩ : Addr).add 0 = ⟨b, o, none⟩ := rfl
    simp [execOp, Act.eval, h1, Instr.sliceAt, Instr.slice, Instr.sliceBounds, Instr.sureAddr, asAddr, run_und j.und, run_size (P := P) (w := w) (T := E), h3]
theorem Qv.makeFn {fb : Nat} {xs : List Operand} {vs : List Value} (h : evs l xs = some vs) : Qv P m l (.makeFunc (.func fb) #[] xs.toArray) (.func (.func fb) #[] vs.toArray) := fun a w _ _ _ _ s => by
  have h1 := s.evs h
  simp [execOp, Instr.makeFunc, h1]
end
section
variable {P : Program} {c : Cx} {l : TL} {H : List Asrt} {G : Act → World → Prop}
/-- One step. -/
theorem J.one {l' : TL} {H' : List Asrt} {G' : Act → World → Prop} (K : J c l' H' G') (h : J c l' H' G' → J c l H G := by
    intro k
    (first
      | (with_reducible first | apply J.np_ret | apply J.seq | apply J.region_lit | apply J.ops_nil | apply J.app_cons | apply J.app_nil | apply J.then_ | apply J.blk_ | apply J.skip | apply J.block | apply J.cret | apply J.exit | apply J.then_ret | apply J.then_exit | apply J.then_panic | apply J.blk_ret | apply J.blk_panic | apply J.blk_exit | apply J.owe_nil | apply J.pl_nil | apply J.scope | apply J.label | apply J.sco_ | apply J.sco_ret | apply J.sco_exit | apply J.sco_panic | apply JC.seq | apply JC.region_lit | apply JC.skip | apply JC.exit | apply JC.ret | apply JC.block)
      | ((first | ((with_reducible apply J.q0); exact rfl) | ((with_reducible apply J.pl0); exact rfl; (first | exact Gd.none | ((with_reducible apply Gd.on); exact rfl; exact rfl)); exact rfl)); focus (first
      | ((with_reducible apply Qv.addB); exact rfl; exact rfl)
      | ((with_reducible first | apply Qv.ptrEq | apply Qv.ptrNe); exact rfl; exact rfl; (first | exact .inl rfl | exact .inr rfl))
      | ((with_reducible first | apply Qv.nilS | apply Qv.nnilS); exact rfl)
      | ((with_reducible apply Qv.lenS8); exact rfl)
      | ((with_reducible first | apply Qv.eqlS | apply Qv.neqS | apply Qv.lssS); exact rfl; exact rfl)
      | ((with_reducible apply Qv.onesB); exact rfl; exact rfl)
      | ((with_reducible first | apply Qv.xorB | apply Qv.andB | apply Qv.orB); exact rfl; exact rfl)
      | ((with_reducible apply Qv.notB); exact rfl)
      | ((with_reducible apply Qv.sliceAllA); exact rfl)
      | ((with_reducible apply Qv.makeFn); exact rfl)
      | ((with_reducible apply Qv.pure); exact rfl)
      | ((with_reducible apply Qv.fieldAddr); exact rfl; (focus ((try simp only [nl, Nat.reduceAdd, Nat.reduceMul, Int.reduceToNat]); try exact rfl)))
      | ((with_reducible first | apply Qv.indexArr | apply Qv.indexBlk | apply Qv.indexN); exact rfl; exact rfl; (first | decide | omega | (constructor <;> omega)); (focus ((try simp only [nl, Nat.reduceAdd, Nat.reduceMul, Int.reduceToNat]); try exact rfl)))
      | ((with_reducible apply Qv.field1); exact rfl; exact rfl)
      | ((with_reducible apply Qv.fieldN); exact rfl; (focus ((try simp only [nl, Nat.reduceAdd, Nat.reduceMul, Int.reduceToNat]); try exact rfl)))
      | ((with_reducible apply Qv.index1); exact rfl; exact rfl; (first | decide | omega | (constructor <;> omega)); exact rfl)
      | ((with_reducible first | apply Qv.add | apply Qv.sub | apply Qv.mul); exact rfl; exact rfl; (first | exact wr64 (by omega) (by omega) (by (try simp only [Int.reduceAdd, Int.reduceSub, Int.reduceMul]); exact rfl) | exact wru64 (by omega) (by omega) (by (try simp only [Int.reduceAdd, Int.reduceSub, Int.reduceMul]); exact rfl) | exact rfl))
      | ((with_reducible apply Qv.conv); exact rfl; (first | exact wr64 (by omega) (by omega) (by (try simp only [Int.reduceAdd, Int.reduceSub, Int.reduceMul]); exact rfl) | exact wru64 (by omega) (by omega) (by (try simp only [Int.reduceAdd, Int.reduceSub, Int.reduceMul]); exact rfl) | exact rfl))
      | ((with_reducible first | apply Qv.eqlB | apply Qv.neqB); exact rfl; exact rfl)
      | ((with_reducible first | apply Qv.buildA | apply Qv.buildS); exact rfl; (simp only [bfill, nl, Nat.reduceAdd, Nat.reduceMul, Int.reduceToNat, List.getElem?_cons_zero, List.getElem?_cons_succ, Nat.reduceLeDiff, Nat.le_refl, and_self, if_true, eq_self]; exact rfl))
      | ((with_reducible apply Qv.quoP); exact rfl; exact rfl; (first | decide | omega); (omega); (first | exact wr64 (by omega) (by omega) rfl | exact wru64 (by omega) (by omega) rfl))
      | ((with_reducible apply Qv.remP); exact rfl; exact rfl; (first | decide | omega); omega)
      | ((with_reducible apply Qv.rem); exact rfl; exact rfl; (first | decide | omega); exact rfl)
      | ((with_reducible apply Qv.quo); exact rfl; exact rfl; (first | decide | omega); (first | exact wr64 (by omega) (by omega) (by (try simp only [Int.reduceAdd, Int.reduceSub, Int.reduceMul]); exact rfl) | exact wru64 (by omega) (by omega) (by (try simp only [Int.reduceAdd, Int.reduceSub, Int.reduceMul]); exact rfl) | exact rfl))
      | ((with_reducible apply Qv.shl); exact rfl; exact rfl; (first | decide | omega); (first | (first | exact wr64 (by omega) (by omega) (by (try simp only [Int.reduceAdd, Int.reduceSub, Int.reduceMul]); exact rfl) | exact wru64 (by omega) (by omega) (by (try simp only [Int.reduceAdd, Int.reduceSub, Int.reduceMul]); exact rfl) | exact rfl) | exact rfl))
      | ((with_reducible apply Qv.shr); exact rfl; exact rfl; (first | decide | omega); exact rfl)
      | ((with_reducible apply Qv.lenS); exact rfl)
      | ((with_reducible apply Qv.lenStr); exact rfl)
      | ((with_reducible apply Qv.capS); exact rfl)
      | ((with_reducible apply Qv.max); exact rfl; exact rfl)
      | ((with_reducible apply Qv.min); exact rfl; exact rfl)))
      | ((first | ((with_reducible apply J.q1); exact rfl) | ((with_reducible apply J.pl1); exact rfl; (first | exact Gd.none | ((with_reducible apply Gd.on); exact rfl; exact rfl)); exact rfl) | ((with_reducible apply J.owe); exact rfl; (first | exact Gd.none | ((with_reducible apply Gd.on); exact rfl; exact rfl)))); focus (first
      | ((with_reducible apply Qr.load1); exact rfl; (repeat (first | with_reducible exact In.here | with_reducible apply In.there)); exact rfl)
      | ((with_reducible apply Qr.loadN); exact rfl; (repeat (first | with_reducible exact In.here | with_reducible apply In.there)); (focus ((try simp only [nl, Nat.reduceAdd, Nat.reduceMul, Int.reduceToNat]); try exact rfl)); (focus (first | (simp only [nl, Nat.reduceAdd, Nat.reduceMul, Int.reduceToNat]; done) | exact rfl)))
      | ((with_reducible apply Qr.row1); exact rfl; (repeat (first | with_reducible exact In.here | with_reducible apply In.there)); exact rfl)
      | ((with_reducible apply Qr.rowN); exact rfl; (repeat (first | with_reducible exact In.here | with_reducible apply In.there)); (focus ((try simp only [nl, Nat.reduceAdd, Nat.reduceMul, Int.reduceToNat]); try exact rfl)); exact rfl)
      | ((with_reducible apply Qr.lenRow); exact rfl; (repeat (first | with_reducible exact In.here | with_reducible apply In.there)))))
      | ((with_reducible apply J.guard_on); exact rfl; exact rfl)
      | ((with_reducible apply J.guard_off); exact rfl; exact rfl; exact rfl; exact rfl)
      | ((with_reducible apply J.guard_off_none); exact rfl; exact rfl; exact rfl)
      | ((with_reducible apply J.blk_past); exact rfl)
      | ((with_reducible first | apply J.cond_true | apply J.cond_false | apply JC.cond_true | apply JC.cond_false); exact rfl)
      | ((with_reducible apply J.pl0_off); exact rfl; ((with_reducible apply Gd.off); exact rfl; exact rfl; exact rfl); exact rfl)
      | ((with_reducible apply J.pl1_off); exact rfl; ((with_reducible apply Gd.off); exact rfl; exact rfl; exact rfl); exact rfl)
      | ((with_reducible apply J.owe_off); exact rfl; ((with_reducible apply Gd.off); exact rfl; exact rfl; exact rfl))
      | ((with_reducible first | apply J.ret | apply J.ret_normal | apply J.retD | apply J.retM); exact rfl; exact rfl; (repeat (first | (with_reducible exact Res.nil) | ((with_reducible apply Res.tmp); exact rfl) | ((with_reducible apply Res.cell1); exact rfl; (repeat (first | with_reducible exact In.here | with_reducible apply In.there)); exact rfl) | ((with_reducible apply Res.cellN); exact rfl; (repeat (first | with_reducible exact In.here | with_reducible apply In.there)); (focus ((try simp only [nl, Nat.reduceAdd, Nat.reduceMul, Int.reduceToNat]); try exact rfl)); (focus (first | (simp only [nl, Nat.reduceAdd, Nat.reduceMul, Int.reduceToNat]; done) | exact rfl))))); exact rfl))
    exact k) : J c l H G := h K
/-- A store. -/
theorem J.loudS {l' : TL} {H' : List Asrt} {G' : Act → World → Prop} (K : J c l' H' G') (h : J c l' H' G' → J c l H G := by
    intro k
    (first
      | ((with_reducible first | apply J.storeN); exact rfl; exact rfl; (repeat (first | with_reducible exact Upd.here | with_reducible apply Upd.there)); (focus ((try simp only [nl, Nat.reduceAdd, Nat.reduceMul, Int.reduceToNat]); try exact rfl)); (focus (first | (simp only [nl, Nat.reduceAdd, Nat.reduceMul, Int.reduceToNat]; done) | exact rfl)); (focus (first | (simp only [nl, Nat.reduceAdd, Nat.reduceMul, Int.reduceToNat]; done) | (simp only [nl, Nat.reduceAdd, Nat.reduceMul, Int.reduceToNat]; omega) | decide)); (first | (with_reducible exact wvs_ones _ _) | ((with_reducible apply tab_ones); intro _; rfl) | exact rfl))
      | ((with_reducible apply J.store1); exact rfl; exact rfl; exact rfl; (repeat (first | with_reducible exact Upd.here | with_reducible apply Upd.there)); (focus ((try simp only [nl, Nat.reduceAdd, Nat.reduceMul, Int.reduceToNat]); try exact rfl)); (first | decide | (simp only [nl, Nat.reduceAdd, Nat.reduceMul, Int.reduceToNat]; omega))))
    exact k) : J c l H G := h K
/-- What is made. -/
theorem J.loudB {α : Type} {l' : α → TL} {H' : α → List Asrt} {G' : Act → World → Prop} (K : ∀ x, J c (l' x) (H' x) G') (h : (∀ x, J c (l' x) (H' x) G') → J c l H G := by
    intro k
    (first
      | ((with_reducible apply J.buildSlice); exact rfl; exact rfl; exact rfl; exact rfl; exact rfl; (simp only [bfill, rep, List.replicate_succ, List.replicate_zero, List.flatten_cons, List.flatten_nil, nl, Nat.reduceAdd, Nat.reduceMul, Int.reduceToNat]; exact rfl))
      | ((with_reducible apply J.buildSlice0); exact rfl)
      | ((with_reducible apply J.append); exact rfl; exact rfl; (repeat (first | with_reducible exact Out.here | with_reducible apply Out.there)); exact rfl; (repeat (first | with_reducible exact In.here | with_reducible apply In.there)); (focus ((try simp only [nl, Nat.reduceAdd, Nat.reduceMul, Int.reduceToNat]); try exact rfl)); exact rfl; exact rfl; exact rfl; exact rfl; exact rfl; (first | decide | (simp only [maxLen]; omega) | omega); (first | decide | (simp only [maxLen]; omega) | omega))
      | ((with_reducible apply J.appendNil); exact rfl; exact rfl; exact rfl; (repeat (first | with_reducible exact In.here | with_reducible apply In.there)); (focus ((try simp only [nl, Nat.reduceAdd, Nat.reduceMul, Int.reduceToNat]); try exact rfl)); exact rfl; exact rfl; exact rfl; exact rfl; exact rfl; (first | decide | (simp only [maxLen]; omega) | omega); (first | decide | (simp only [maxLen]; omega) | omega))
      | ((with_reducible apply J.boxN); exact rfl; exact rfl)
      | ((with_reducible apply J.box1); exact rfl; exact rfl; exact rfl)
      | ((with_reducible apply J.alloc); exact rfl))
    exact k) : J c l H G := h K
/-- What is made, with what is told of it. -/
theorem J.loudQ {α : Type} {p : α → Prop} {l' : α → TL} {H' : α → List Asrt} {G' : Act → World → Prop} (K : ∀ x, p x → J c (l' x) (H' x) G') (h : (∀ x, p x → J c (l' x) (H' x) G') → J c l H G := by
    intro k
    (first
      | ((with_reducible apply J.appendR); exact rfl; exact rfl; (repeat (first | with_reducible exact Out.here | with_reducible apply Out.there)); exact rfl; (first | (focus ((with_reducible apply RH.row); (repeat (first | with_reducible exact In.here | with_reducible apply In.there)); done)) | (focus ((with_reducible apply RH.rowAt); (repeat (first | with_reducible exact In.here | with_reducible apply In.there)); done)) | (focus ((with_reducible apply RH.bat); (repeat (first | with_reducible exact In.here | with_reducible apply In.there)); done)) | (focus ((with_reducible apply RH.blk0); (repeat (first | with_reducible exact In.here | with_reducible apply In.there)); done))); (focus (first | (simp only [bcs_length, Sha.num_length, Sha.sha_length, Sha.short_length, List.length_append, Nat.mul_one]; done) | (simp; done) | (simp; omega) | omega)); (focus (first | exact bcs_ones _ | exact rfl | (simp; done))); exact rfl; exact rfl; (first | decide | (simp only [maxLen]; omega) | omega); (first | decide | (simp only [maxLen]; omega) | omega))
      | ((with_reducible apply J.toBytes); exact rfl; exact rfl))
    exact k) : J c l H G := h K
/-- A step by a rule of one's own. -/
theorem exq {p q : Value → Prop} {v : Value} (h1 : p v) (h2 : q v) : ∃ v, p v ∧ q v := ⟨v, h1, h2⟩
theorem J.qv {l' : Value → TL} {G' : Value → Act → World → Prop} {op : Op} (K : ∃ v, Qv P c.n l op v ∧ J c (l' v) H (G' v)) (h : ∀ v, Qv P c.n l op v → J c (l' v) H (G' v) → J c l H G := by
    intro v k1 k2
    (first | ((with_reducible apply J.q0); exact rfl) | ((with_reducible apply J.pl0); exact rfl; (first | exact Gd.none | ((with_reducible apply Gd.on); exact rfl; exact rfl)); exact rfl))
    exact k1
    exact k2) : J c l H G := let ⟨v, k1, k2⟩ := K; h v k1 k2
theorem J.qr {l' : Value → TL} {G' : Value → Act → World → Prop} {op : Op} (K : ∃ v, Qr P c l H op v ∧ J c (l' v) H (G' v)) (h : ∀ v, Qr P c l H op v → J c (l' v) H (G' v) → J c l H G := by
    intro v k1 k2
    (first | ((with_reducible apply J.q1); exact rfl) | ((with_reducible apply J.pl1); exact rfl; (first | exact Gd.none | ((with_reducible apply Gd.on); exact rfl; exact rfl)); exact rfl))
    exact k1
    exact k2) : J c l H G := let ⟨v, k1, k2⟩ := K; h v k1 k2
theorem J.qo {G' : Act → World → Prop} {op : Op} {v : Value} (K : Qr P c l H op v ∧ J c l H G') (h : Qr P c l H op v → J c l H G' → J c l H G := by
    intro k1 k2
    ((with_reducible apply J.owe); exact rfl; (first | exact Gd.none | ((with_reducible apply Gd.on); exact rfl; exact rfl)))
    exact k1
    exact k2) : J c l H G := h K.1 K.2
end
end Go.Proofs.Ytfcaeifpclpnoaa.Eng
