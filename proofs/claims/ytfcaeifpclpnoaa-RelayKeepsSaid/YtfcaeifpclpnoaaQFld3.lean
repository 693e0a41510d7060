/-
  Fields that are read: wide numbers; how it begins. No conditions.
-/
import Derived.Test.YtfcaeifpclpnoaaQUnw
namespace Go.Proofs.Ytfcaeifpclpnoaa.Fld3
open Go Go.RowKit Eng
set_option linter.unusedVariables false
set_option maxRecDepth 100000
set_option linter.unusedSimpArgs false
open Sha Iter Hash Bytes Hsum Wide Tx Field Deal Msg Fld Fld2 Unw
set_option maxHeartbeats 1000000
theorem pWide_b {r : List UInt8} {e : Int} (he : e ≠ 0) : pWide (r, e) = (([], e), 0) := by
  unfold pWide
  rw [pTake_b he]
  rfl
theorem pWide_s {r : List UInt8} (h : ¬ 32 ≤ r.length) : pWide (r, 0) = (([], 16), 0) := by
  unfold pWide
  rw [pTake_s h]
  rfl
theorem pWide_y {r : List UInt8} (h : 32 ≤ r.length) : pWide (r, 0) = ((r.drop 32, 0), ((be (r.take 32) : Nat) : Int)) := by
  unfold pWide
  rw [pTake_y h]
theorem wide_b (p : Nat) (q : Option Addr × Nat) (L : List UInt8) (e : Int) (he : e ≠ 0) (w : World) : CSpec Try.prog 84 [.pointer (some ⟨p, 0, none⟩)] [blk p (inBad e) 184, row (.slice q.1 L.length q.2) 5 1 L.length (bcs L)] w (RdP p q L (.agg (wv 0).toArray) ([], e)) := by
  refine spec_of Try.func84 rfl Try.ntmps84 rfl (l0 := [(0, .pointer (some ⟨p, 0, none⟩))]) rfl ?_
  intro fp
  repeat' first
    | (refine J.qr ?_; (with_reducible apply exq); focus (first
      | ((with_reducible apply Qr.loadFull); exact rfl; (focus ((repeat (first | with_reducible exact In.here | with_reducible apply In.there)); done)); with_reducible exact wv_length _)))
    | ((with_reducible apply J.storeFull); exact rfl; exact rfl; (repeat (first | with_reducible exact Upd.here | with_reducible apply Upd.there)); (with_reducible exact wv_length _); (first | (with_reducible exact wv_length _) | kernel_rfl); with_reducible exact wv_ones _)
    | ((with_reducible apply J.allocW); exact rfl; exact rfl; intro _)
    | ((with_reducible apply J.keepsW (take_b _ 32 _ he)); exact rfl; exact rfl; (repeat (first | (with_reducible exact Outs.nil) | ((with_reducible apply Outs.cons); (repeat (first | with_reducible exact Out.here | with_reducible apply Out.there))))))
    | ((with_reducible apply J.givesR (unw_n)); exact rfl; exact rfl; focus (exact RH.true_))
    | refine J.one ?_
    | refine J.loudS ?_
    | (refine J.loudQ ?_; intro _ _)
    | (refine J.loudB ?_; intro _)
    | (with_reducible apply J.list)
    | ((with_reducible apply J.gsplit); exact rfl; exact rfl)
    | ((with_reducible first | apply J.cond | apply JC.cond); exact rfl)
    | (intro h; exfalso; (first | (simp at h; done) | (simp at h; omega) | omega))
    | (intro h; (try simp only [decide_eq_true_eq, decide_eq_false_iff_not, beq_iff_eq, beq_eq_false_iff_ne, Bool.not_eq_true', Bool.not_eq_false', bne_iff_ne, bne_eq_false_iff_eq, ne_eq, ge_iff_le, gt_iff_lt] at h))
    | (with_reducible apply J.gave')
    | ((with_reducible apply J.kept'); rotate_left; (repeat (first | (with_reducible exact Outs.nil) | ((with_reducible apply Outs.cons); (repeat (first | with_reducible exact Out.here | with_reducible apply Out.there))))))
  all_goals first
    | (apply J.reB (b := p) (C' := inC ([], e) (none, 0))
       · (repeat (first | with_reducible exact Upd.here | with_reducible apply Upd.there))
       · exact (inC_n (by first | assumption | decide)).symm
       apply J.endRd (OKs.bad q L (by first | assumption | decide) _)
       · rfl
       · (repeat (first | (with_reducible exact Outs.nil) | ((with_reducible apply Outs.cons); (repeat (first | with_reducible exact Out.here | with_reducible apply Out.there))))))
    | (trace_state; fail)
theorem wide_s (p : Nat) (q : Option Addr × Nat) (L : List UInt8) (r : List UInt8) (s : Option Addr × Nat) (hr : ¬ 32 ≤ r.length) (w : World) : CSpec Try.prog 84 [.pointer (some ⟨p, 0, none⟩)] [blk p (inOk r s) 184, row (.slice q.1 L.length q.2) 5 1 L.length (bcs L)] w (RdP p q L (.agg (wv 0).toArray) ([], 16)) := by
  refine spec_of Try.func84 rfl Try.ntmps84 rfl (l0 := [(0, .pointer (some ⟨p, 0, none⟩))]) rfl ?_
  intro fp
  repeat' first
    | (refine J.qr ?_; (with_reducible apply exq); focus (first
      | ((with_reducible apply Qr.loadFull); exact rfl; (focus ((repeat (first | with_reducible exact In.here | with_reducible apply In.there)); done)); with_reducible exact wv_length _)))
    | ((with_reducible apply J.storeFull); exact rfl; exact rfl; (repeat (first | with_reducible exact Upd.here | with_reducible apply Upd.there)); (with_reducible exact wv_length _); (first | (with_reducible exact wv_length _) | kernel_rfl); with_reducible exact wv_ones _)
    | ((with_reducible apply J.allocW); exact rfl; exact rfl; intro _)
    | ((with_reducible apply J.turnsP (take_s _ 32 _ _)); exact rfl; exact rfl; (repeat (first | (with_reducible exact Outs.nil) | ((with_reducible apply Outs.cons); (repeat (first | with_reducible exact Out.here | with_reducible apply Out.there))))); (focus (omega)); (try dsimp only [List.cons_append, List.nil_append]))
    | ((with_reducible apply J.givesR (unw_n)); exact rfl; exact rfl; focus (exact RH.true_))
    | refine J.one ?_
    | refine J.loudS ?_
    | (refine J.loudQ ?_; intro _ _)
    | (refine J.loudB ?_; intro _)
    | (with_reducible apply J.list)
    | ((with_reducible apply J.gsplit); exact rfl; exact rfl)
    | ((with_reducible first | apply J.cond | apply JC.cond); exact rfl)
    | (intro h; exfalso; (first | (simp at h; done) | (simp at h; omega) | omega))
    | (intro h; (try simp only [decide_eq_true_eq, decide_eq_false_iff_not, beq_iff_eq, beq_eq_false_iff_ne, Bool.not_eq_true', Bool.not_eq_false', bne_iff_ne, bne_eq_false_iff_eq, ne_eq, ge_iff_le, gt_iff_lt] at h))
    | (with_reducible apply J.gave')
    | ((with_reducible apply J.kept'); rotate_left; (repeat (first | (with_reducible exact Outs.nil) | ((with_reducible apply Outs.cons); (repeat (first | with_reducible exact Out.here | with_reducible apply Out.there))))))
  all_goals first
    | (apply J.reB (b := p) (C' := inC ([], 16) (none, 0))
       · (repeat (first | with_reducible exact Upd.here | with_reducible apply Upd.there))
       · exact (inC_n (by first | assumption | decide)).symm
       apply J.endRd (OKs.bad q L (by first | assumption | decide) _)
       · rfl
       · (repeat (first | (with_reducible exact Outs.nil) | ((with_reducible apply Outs.cons); (repeat (first | with_reducible exact Out.here | with_reducible apply Out.there))))))
    | (trace_state; fail)
theorem wide_y (p : Nat) (q : Option Addr × Nat) (L : List UInt8) (r : List UInt8) (s : Option Addr × Nat) (hr : 32 ≤ r.length) (hok : OKs q L (r, 0) s) (w : World) : CSpec Try.prog 84 [.pointer (some ⟨p, 0, none⟩)] [blk p (inOk r s) 184, row (.slice q.1 L.length q.2) 5 1 L.length (bcs L)] w (RdP p q L (.agg (wv ((be (r.take 32) : Nat) : Int)).toArray) (r.drop 32, 0)) := by
  have hc := hok.c rfl
  dsimp only at hc
  refine spec_of Try.func84 rfl Try.ntmps84 rfl (l0 := [(0, .pointer (some ⟨p, 0, none⟩))]) rfl ?_
  intro fp
  repeat' first
    | (refine J.qr ?_; (with_reducible apply exq); focus (first
      | ((with_reducible apply Qr.loadFull); exact rfl; (focus ((repeat (first | with_reducible exact In.here | with_reducible apply In.there)); done)); with_reducible exact wv_length _)))
    | ((with_reducible apply J.storeFull); exact rfl; exact rfl; (repeat (first | with_reducible exact Upd.here | with_reducible apply Upd.there)); (with_reducible exact wv_length _); (first | (with_reducible exact wv_length _) | kernel_rfl); with_reducible exact wv_ones _)
    | ((with_reducible apply J.allocW); exact rfl; exact rfl; intro _)
    | ((with_reducible apply J.turnsP (take_y _ 32 _ _)); exact rfl; exact rfl; (repeat (first | (with_reducible exact Outs.nil) | ((with_reducible apply Outs.cons); (repeat (first | with_reducible exact Out.here | with_reducible apply Out.there))))); (focus (exact ⟨hr, hc⟩)); (try dsimp only [List.cons_append, List.nil_append]))
    | ((with_reducible apply J.givesR (unw_y _ _ _ (r.take 32))); exact rfl; exact rfl; focus (exact RH.and (fun w2 s2 => Rd.head (RH.sfx (hok.r rfl) (by (repeat (first | with_reducible exact In.here | with_reducible apply In.there))) w2 s2) hr) (RH.of ⟨rfl, by rw [List.length_take]; omega⟩)))
    | refine J.one ?_
    | refine J.loudS ?_
    | (refine J.loudQ ?_; intro _ _)
    | (refine J.loudB ?_; intro _)
    | (with_reducible apply J.list)
    | ((with_reducible apply J.gsplit); exact rfl; exact rfl)
    | ((with_reducible first | apply J.cond | apply JC.cond); exact rfl)
    | (intro h; exfalso; (first | (simp at h; done) | (simp at h; omega) | omega))
    | (intro h; (try simp only [decide_eq_true_eq, decide_eq_false_iff_not, beq_iff_eq, beq_eq_false_iff_ne, Bool.not_eq_true', Bool.not_eq_false', bne_iff_ne, bne_eq_false_iff_eq, ne_eq, ge_iff_le, gt_iff_lt] at h))
    | (with_reducible apply J.gave')
    | ((with_reducible apply J.kept'); rotate_left; (repeat (first | (with_reducible exact Outs.nil) | ((with_reducible apply Outs.cons); (repeat (first | with_reducible exact Out.here | with_reducible apply Out.there))))))
  all_goals first
    | (apply J.reB (b := p) (C' := inC (r.drop 32, 0) (offA s.1 (32 * 1) (s.2 - 32), s.2 - 32))
       · (repeat (first | with_reducible exact Upd.here | with_reducible apply Upd.there))
       · exact inC_y.symm
       apply J.endRd (hok.drop hr)
       · rfl
       · (repeat (first | (with_reducible exact Outs.nil) | ((with_reducible apply Outs.cons); (repeat (first | with_reducible exact Out.here | with_reducible apply Out.there))))))
    | (trace_state; fail)
theorem wide_r (p : Nat) (q : Option Addr × Nat) (L : List UInt8) (z : Pz) (s : Option Addr × Nat) (hok : OKs q L z s) (w : World) : CSpec Try.prog 84 [.pointer (some ⟨p, 0, none⟩)] [blk p (inC z s) 184, row (.slice q.1 L.length q.2) 5 1 L.length (bcs L)] w (RdP p q L (.agg (wv (pWide z).2).toArray) (pWide z).1) := by
  obtain ⟨r, e⟩ := z
  by_cases he : e = 0
  · subst he
    rw [inC_y]
    by_cases hr : 32 ≤ r.length
    · rw [pWide_y hr]
      exact wide_y p q L r s hr hok w
    · rw [pWide_s hr]
      exact wide_s p q L r s hr w
  · rw [inC_n he, pWide_b he]
    exact wide_b p q L e he w
/-- How reading begins. -/
def pOpen (l : List UInt8) : Pz := if l.length ≤ 8192 then (l, 0) else ([], 5)
def pL (l : List UInt8) : List UInt8 := if l.length ≤ 8192 then l else []
def OpR (l : List UInt8) : Ending → List Asrt → Prop := fun e H => ∃ x : Nat × (Option Addr × Nat) × (Option Addr × Nat), OKs x.2.1 (pL l) (pOpen l) x.2.2 ∧ e = .returned (.pointer (some ⟨x.1, 0, none⟩)) ∧ H = [blk x.1 (inC (pOpen l) x.2.2) 184, row (.slice x.2.1.1 (pL l).length x.2.1.2) 5 1 (pL l).length (bcs (pL l))]
section
variable {P : Program} {c : Cx} {l : TL} {H R : List Asrt} {Q : Exit → Act → World → Prop} {X : Act → World → Prop}
variable {ty : TypeId} {pos : String} {af : Array Edge} {d : Nat}
theorem J.opR {f : Nat} [i : Eng.Enters P f] {xs : List Operand} {ts : Array TypeId} {vs : List Value} {b : List UInt8} {pre : World → Prop} (hS : ∀ w, pre w → CSpec P f vs [] w (OpR b)) (hd : Nat.blt d c.n = true) (hx : evs l xs = some vs) (hp : RH c.w0 c.own H pre)
    (K : ∀ (p : Nat) (q s : Option Addr × Nat), OKs q (pL b) (pOpen b) s → J c ((d, .pointer (some ⟨p, 0, none⟩)) :: l) (blk p (inC (pOpen b) s) 184 :: row (.slice q.1 (pL b).length q.2) 5 1 (pL b).length (bcs (pL b)) :: H) X) : J c l H (OW P Q ⟨some d, .call ⟨.value (.func f), xs.toArray, ts⟩, ty, pos, af, none⟩ X) :=
  J.callS hd hx .nil (fun w s => hS w (hp w s)) (fun v' H3 ⟨x, h0, h1, h2⟩ => by
    cases h1; subst h2
    exact K x.1 x.2.1 x.2.2 h0) (fun ch H3 ⟨b, _, h1, _⟩ => by cases h1) (fun H3 ⟨b, _, h1, _⟩ => by cases h1)
theorem J.endOp {b : List UInt8} {p : Nat} {q s : Option Addr × Nat} (hk : OKs q (pL b) (pOpen b) s) (ho : Outs [blk p (inC (pOpen b) s) 184, row (.slice q.1 (pL b).length q.2) 5 1 (pL b).length (bcs (pL b))] H R) : J c l H (fun _ w => ∃ H3, OpR b (.returned (.pointer (some ⟨p, 0, none⟩))) H3 ∧ Sat c.w0 c.own H3 w) :=
  J.post (R := OpR b) ⟨(p, q, s), hk, rfl, rfl⟩ ho
theorem J.capR2 {ao : Option Addr} {n cap E sz : Nat} {C : List Value} {G : Act → World → Prop} (hm : In (row (.slice ao n cap) E sz n C) H) (K : n ≤ cap → J c l H G) : J c l H G := J.mk fun a w s => (K (s.2.2.rd_row hm).2.1).out a w s
end
theorem open_ (ao : Option Addr) (n cap : Nat) (l : List UInt8) (w : World) (hw : Rd w ao (bcs l) ∧ n = l.length ∧ n ≤ cap) : CSpec Try.prog 81 [.slice ao n cap] [] w (OpR l) := by
  obtain ⟨hr, rfl, hc⟩ := hw
  refine spec_own0 Try.func81 rfl Try.ntmps81 rfl (l0 := [(0, .slice ao l.length cap)]) rfl ?_
  repeat' first
    | (refine J.qv ?_; (with_reducible apply exq); focus (first
      | ((with_reducible apply Qv.buildS (T := 184)); exact rfl; exact (show _ = some (inBad 5) from rfl))
      | ((with_reducible apply Qv.buildS (T := 184)); exact rfl; exact (show _ = some ([.slice q9.1 ([l] : List (List UInt8)).flatten.length q9.2, .int .i64 0, .bool true]) from rfl))))
    | ((with_reducible apply J.freshR (cat_ _ _ _ [l])); exact rfl; exact rfl; (focus (exact RH.and (RH.sblk (by (repeat (first | with_reducible exact In.here | with_reducible apply In.there))) (RH.lcons (RH.b (RH.old hr) (by rfl) (by assumption)) RH.lnil)) (RH.of ⟨rfl, by simp; omega, by simp⟩))); intro q9 hq9)
    | refine J.one ?_
    | refine J.loudS ?_
    | (refine J.loudQ ?_; intro _ _)
    | (refine J.loudB ?_; intro _)
    | (with_reducible apply J.list)
    | ((with_reducible apply J.gsplit); exact rfl; exact rfl)
    | ((with_reducible first | apply J.cond | apply JC.cond); exact rfl)
    | (intro h; exfalso; (first | (simp at h; done) | (simp at h; omega) | omega))
    | (intro h; (try simp only [decide_eq_true_eq, decide_eq_false_iff_not, beq_iff_eq, beq_eq_false_iff_ne, Bool.not_eq_true', Bool.not_eq_false', bne_iff_ne, bne_eq_false_iff_eq, ne_eq, ge_iff_le, gt_iff_lt] at h))
    | (with_reducible apply J.gave')
    | ((with_reducible apply J.kept'); rotate_left; (repeat (first | (with_reducible exact Outs.nil) | ((with_reducible apply Outs.cons); (repeat (first | with_reducible exact Out.here | with_reducible apply Out.there))))))
  all_goals first
    | (rename_i b9
       have e1 : pOpen l = ([], 5) := if_neg (by omega)
       have e2 : pL l = [] := if_neg (by omega)
       refine J.nilRow 5 1 ?_
       apply J.reB (b := b9) (C' := inC (pOpen l) (none, 0))
       · (repeat (first | with_reducible exact Upd.here | with_reducible apply Upd.there))
       · (rw [e1]; exact (inC_n (by decide)).symm)
       apply J.reR (E := 5) (v := .slice none 0 0) (n := 0) (C := []) (v' := .slice none (pL l).length 0) (n' := (pL l).length) (C' := bcs (pL l))
       · (repeat (first | with_reducible exact Upd.here | with_reducible apply Upd.there))
       · (rw [e2]; rfl)
       · (rw [e2]; rfl)
       · (rw [e2]; rfl)
       apply J.endOp (q := (none, 0)) (s := (none, 0)) (by rw [e1]; exact OKs.bad _ _ (by decide) _)
       (repeat (first | (with_reducible exact Outs.nil) | ((with_reducible apply Outs.cons); (repeat (first | with_reducible exact Out.here | with_reducible apply Out.there))))))
    | (rename_i b9
       have e1 : pOpen l = (l, 0) := if_pos (by omega)
       have e2 : pL l = l := if_pos (by omega)
       have e3 : ([l] : List (List UInt8)).flatten = l := by simp
       (with_reducible apply J.capR2 (ao := q9.1) (n := ([l] : List (List UInt8)).flatten.length) (cap := q9.2) (by (repeat (first | with_reducible exact In.here | with_reducible apply In.there))))
       intro hcp
       rw [e3] at hcp
       apply J.reB (b := b9) (C' := inC (pOpen l) q9)
       · (repeat (first | with_reducible exact Upd.here | with_reducible apply Upd.there))
       · (rw [e1, inC_y]; unfold inOk; rw [e3])
       apply J.reR (E := 5) (v := .slice q9.1 ([l] : List (List UInt8)).flatten.length q9.2) (n := ([l] : List (List UInt8)).flatten.length) (C := bcs ([l] : List (List UInt8)).flatten) (v' := .slice q9.1 (pL l).length q9.2) (n' := (pL l).length) (C' := bcs (pL l))
       · (repeat (first | with_reducible exact Upd.here | with_reducible apply Upd.there))
       · (rw [e3, e2])
       · (rw [e3, e2])
       · (rw [e3, e2])
       apply J.endOp (q := q9) (s := q9) (by rw [e1]; exact ⟨fun _ => hcp, fun _ w hw => by rw [e2] at hw; exact hw, by dsimp only; omega⟩)
       (repeat (first | (with_reducible exact Outs.nil) | ((with_reducible apply Outs.cons); (repeat (first | with_reducible exact Out.here | with_reducible apply Out.there))))))
    | (trace_state; fail)
end Go.Proofs.Ytfcaeifpclpnoaa.Fld3
