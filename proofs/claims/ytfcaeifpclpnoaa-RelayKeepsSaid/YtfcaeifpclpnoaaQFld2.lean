/-
  Fields that are read: texts, wide numbers, what is left. No conditions.
-/
import Derived.Test.YtfcaeifpclpnoaaQDeal
import Derived.Test.YtfcaeifpclpnoaaQMsg
namespace Go.Proofs.Ytfcaeifpclpnoaa.Fld
open Go Go.RowKit Eng
set_option linter.unusedVariables false
set_option maxRecDepth 100000
set_option linter.unusedSimpArgs false
open Sha Iter Hash Bytes Hsum Wide Tx Field Deal Msg
set_option maxHeartbeats 1000000
/-- What is read of octets: what is left, and an error. -/
abbrev Pz := List UInt8 × Int
def pTake (n : Nat) (z : Pz) : Pz × List UInt8 := if z.2 = 0 then (if n ≤ z.1.length then ((z.1.drop n, 0), z.1.take n) else (([], 16), [])) else (([], z.2), [])
def pNum (most : Int) (z : Pz) : Pz × Int := if (pTake 6 z).1.2 = 0 ∧ imin most 1099511627776 < (be (pTake 6 z).2 : Int) then (([], 4), 0) else ((pTake 6 z).1, (be (pTake 6 z).2 : Int))
def pText (most : Int) (z : Pz) : Pz × List UInt8 := if (pTake 2 z).1.2 = 0 ∧ imin most 1024 < (be (pTake 2 z).2 : Int) then (([], 4), []) else pTake (be (pTake 2 z).2) (pTake 2 z).1
def pWide (z : Pz) : Pz × Int := ((pTake 32 z).1, (be (pTake 32 z).2 : Int))
def pSpoil (z : Pz) : Pz := if z.2 = 0 then ([], 16) else ([], z.2)
/-- Its cells. -/
def inOk (r : List UInt8) (s : Option Addr × Nat) : List Value := [.slice s.1 r.length s.2, .int .i64 0, .bool true]
def inBad (e : Int) : List Value := [.slice none 0 0, .int .i64 e, .bool true]
def inC (z : Pz) (s : Option Addr × Nat) : List Value := if z.2 = 0 then inOk z.1 s else inBad z.2
theorem inC_y {r : List UInt8} {s : Option Addr × Nat} : inC (r, 0) s = inOk r s := if_pos rfl
theorem inC_n {r : List UInt8} {e : Int} {s : Option Addr × Nat} (h : e ≠ 0) : inC (r, e) s = inBad e := if_neg h
/-- What is left stands in the octets. -/
structure OKs (q : Option Addr × Nat) (L : List UInt8) (z : Pz) (s : Option Addr × Nat) : Prop where
  c : z.2 = 0 → z.1.length ≤ s.2
  r : z.2 = 0 → ∀ w, Rd w q.1 (bcs L) → Rd w s.1 (bcs z.1)
  l : z.1.length ≤ 8192
theorem OKs.bad (q : Option Addr × Nat) (L : List UInt8) {e : Int} (h : e ≠ 0) (s : Option Addr × Nat) : OKs q L ([], e) s := ⟨fun h2 => absurd h2 h, fun h2 => absurd h2 h, Nat.zero_le _⟩
theorem OKs.drop {q : Option Addr × Nat} {L r : List UInt8} {s : Option Addr × Nat} (h : OKs q L (r, 0) s) {n : Nat} (hn : n ≤ r.length) : OKs q L (r.drop n, 0) (offA s.1 (n * 1) (s.2 - n), s.2 - n) := ⟨fun _ => by have := h.c rfl; simp only [List.length_drop]; dsimp only at this ⊢; omega, fun _ w hw => by
  have h1 := h.r rfl w hw
  have h2 := Rd.off h1 (n * 1) (r.length - n) (s.2 - n) (by have := h.c rfl; dsimp only at this; omega)
  have e : ((bcs r).drop (n * 1)).take (r.length - n) = bcs (r.drop n) := by
    rw [Nat.mul_one, bcs_drop, List.take_of_length_le (by rw [bcs_length, List.length_drop]; exact Nat.le_refl _)]
  rw [e] at h2
  exact h2, by have := h.l; simp only [List.length_drop]; dsimp only at this ⊢; omega⟩
/-- Something was read. -/
def RdP (p : Nat) (q : Option Addr × Nat) (L : List UInt8) (v : Value) (z : Pz) : Ending → List Asrt → Prop := fun e H => ∃ s, OKs q L z s ∧ e = .returned v ∧ H = [blk p (inC z s) 184, row (.slice q.1 L.length q.2) 5 1 L.length (bcs L)]
section
variable {P : Program} {c : Cx} {l : TL} {H R : List Asrt} {Q : Exit → Act → World → Prop} {X : Act → World → Prop}
variable {ty : TypeId} {pos : String} {af : Array Edge} {d : Nat} {p : Nat} {q : Option Addr × Nat} {L : List UInt8} {z z' : Pz} {s : Option Addr × Nat}
theorem J.rdP {f : Nat} [i : Eng.Enters P f] {xs : List Operand} {ts : Array TypeId} {vs : List Value} {v : Value} (hS : ∀ w, CSpec P f vs [blk p (inC z s) 184, row (.slice q.1 L.length q.2) 5 1 L.length (bcs L)] w (RdP p q L v z')) (hd : Nat.blt d c.n = true) (hx : evs l xs = some vs) (ho : Outs [blk p (inC z s) 184, row (.slice q.1 L.length q.2) 5 1 L.length (bcs L)] H R)
    (K : ∀ s', OKs q L z' s' → J c ((d, v) :: l) (blk p (inC z' s') 184 :: row (.slice q.1 L.length q.2) 5 1 L.length (bcs L) :: R) X) : J c l H (OW P Q ⟨some d, .call ⟨.value (.func f), xs.toArray, ts⟩, ty, pos, af, none⟩ X) :=
  J.callS hd hx ho (fun w s => hS w) (fun v' H3 ⟨s', h0, h1, h2⟩ => by
    cases h1; subst h2
    exact K s' h0) (fun ch H3 ⟨b, _, h1, _⟩ => by cases h1) (fun H3 ⟨b, _, h1, _⟩ => by cases h1)
theorem J.endRd {v v' : Value} (hk : OKs q L z s) (hv : v' = v) (ho : Outs [blk p (inC z s) 184, row (.slice q.1 L.length q.2) 5 1 L.length (bcs L)] H R) : J c l H (fun _ w => ∃ H3, RdP p q L v z (.returned v') H3 ∧ Sat c.w0 c.own H3 w) := by
  subst hv
  exact J.post (R := RdP p q L v' z) ⟨s, hk, rfl, rfl⟩ ho
theorem RH.sfx {w0 : World} {own : List Nat} {r : List UInt8} {ao : Option Addr} (hs : ∀ w, Rd w q.1 (bcs L) → Rd w ao (bcs r)) (hm : In (row (.slice q.1 L.length q.2) 5 1 L.length (bcs L)) H) : RH w0 own H (fun w => Rd w ao (bcs r)) := fun w s => hs w (RH.row hm w s)
end
theorem ok_y (p : Nat) (r : List UInt8) (s : Option Addr × Nat) (w : World) : CSpec Try.prog 112 [.pointer (some ⟨p, 0, none⟩)] [blk p (inOk r s) 184] w (Keeps (.bool true) [blk p (inOk r s) 184]) := by
  refine spec_of Try.func112 rfl Try.ntmps112 rfl (l0 := [(0, .pointer (some ⟨p, 0, none⟩))]) rfl ?_
  intro fp
  repeat' first
    | (refine J.qr ?_; (with_reducible apply exq); focus (first
      | ((with_reducible apply Qr.load1); exact rfl; (focus ((repeat (first | with_reducible exact In.here | with_reducible apply In.there)); done)); exact rfl)))
    | refine J.one ?_
    | refine J.loudS ?_
    | (refine J.loudQ ?_; intro _ _)
    | (refine J.loudB ?_; intro _)
    | (with_reducible apply J.list)
    | ((with_reducible apply J.gsplit); exact rfl; exact rfl)
    | ((with_reducible first | apply J.cond | apply JC.cond); exact rfl)
    | (intro h; exfalso; (simp at h; done))
    | (intro h; (try simp only [decide_eq_true_eq, decide_eq_false_iff_not, beq_iff_eq, beq_eq_false_iff_ne, Bool.not_eq_true', Bool.not_eq_false', bne_iff_ne, bne_eq_false_iff_eq, ne_eq, ge_iff_le, gt_iff_lt] at h))
    | (with_reducible apply J.gave')
    | ((with_reducible apply J.kept'); rotate_left; (repeat (first | (with_reducible exact Outs.nil) | ((with_reducible apply Outs.cons); (repeat (first | with_reducible exact Out.here | with_reducible apply Out.there))))))
  all_goals (rfl)
theorem ok_n (p : Nat) (e : Int) (he : e ≠ 0) (w : World) : CSpec Try.prog 112 [.pointer (some ⟨p, 0, none⟩)] [blk p (inBad e) 184] w (Keeps (.bool false) [blk p (inBad e) 184]) := by
  refine spec_of Try.func112 rfl Try.ntmps112 rfl (l0 := [(0, .pointer (some ⟨p, 0, none⟩))]) rfl ?_
  intro fp
  repeat' first
    | (refine J.qr ?_; (with_reducible apply exq); focus (first
      | ((with_reducible apply Qr.load1); exact rfl; (focus ((repeat (first | with_reducible exact In.here | with_reducible apply In.there)); done)); exact rfl)))
    | refine J.one ?_
    | refine J.loudS ?_
    | (refine J.loudQ ?_; intro _ _)
    | (refine J.loudB ?_; intro _)
    | (with_reducible apply J.list)
    | ((with_reducible apply J.gsplit); exact rfl; exact rfl)
    | ((with_reducible first | apply J.cond | apply JC.cond); exact rfl)
    | (intro h; exfalso; (simp at h; done))
    | (intro h; (try simp only [decide_eq_true_eq, decide_eq_false_iff_not, beq_iff_eq, beq_eq_false_iff_ne, Bool.not_eq_true', Bool.not_eq_false', bne_iff_ne, bne_eq_false_iff_eq, ne_eq, ge_iff_le, gt_iff_lt] at h))
    | (with_reducible apply J.gave')
    | ((with_reducible apply J.kept'); rotate_left; (repeat (first | (with_reducible exact Outs.nil) | ((with_reducible apply Outs.cons); (repeat (first | with_reducible exact Out.here | with_reducible apply Out.there))))))
  all_goals ((simp [retv, he]; done))
theorem fail_y (p : Nat) (r : List UInt8) (s : Option Addr × Nat) (e : Int) (w : World) (hw : True) : CSpec Try.prog 113 [.pointer (some ⟨p, 0, none⟩), .int .i64 e] [blk p (inOk r s) 184] w (Turns (.tuple #[]) [blk p (inBad e) 184]) := by
  refine spec_of Try.func113 rfl Try.ntmps113 rfl (l0 := [(0, .pointer (some ⟨p, 0, none⟩)), (1, .int .i64 e)]) rfl ?_
  intro fp
  repeat' first
    | ((with_reducible apply J.store1); exact rfl; exact rfl; exact rfl; (repeat (first | with_reducible exact Upd.here | with_reducible apply Upd.there)); exact (show _ = [.slice none 0 0, .int .i64 0, .bool true] from rfl); (first | (show 0 + 1 ≤ 3; decide) | (show 1 + 1 ≤ 3; decide)))
    | ((with_reducible apply J.store1); exact rfl; exact rfl; exact rfl; (repeat (first | with_reducible exact Upd.here | with_reducible apply Upd.there)); exact (show _ = inBad e from rfl); (first | (show 0 + 1 ≤ 3; decide) | (show 1 + 1 ≤ 3; decide)))
    | refine J.one ?_
    | refine J.loudS ?_
    | (refine J.loudQ ?_; intro _ _)
    | (refine J.loudB ?_; intro _)
    | (with_reducible apply J.list)
    | ((with_reducible apply J.gsplit); exact rfl; exact rfl)
    | ((with_reducible first | apply J.cond | apply JC.cond); exact rfl)
    | (intro h; exfalso; fail)
    | (intro h; (try simp only [decide_eq_true_eq, decide_eq_false_iff_not, beq_iff_eq, beq_eq_false_iff_ne, Bool.not_eq_true', Bool.not_eq_false', bne_iff_ne, bne_eq_false_iff_eq, ne_eq, ge_iff_le, gt_iff_lt] at h))
    | (with_reducible apply J.gave')
    | ((with_reducible apply J.kept'); rotate_left; (repeat (first | (with_reducible exact Outs.nil) | ((with_reducible apply Outs.cons); (repeat (first | with_reducible exact Out.here | with_reducible apply Out.there))))))
  all_goals
    first
    | (apply J.reB (b := p) (C' := inBad e)
       · (repeat (first | with_reducible exact Upd.here | with_reducible apply Upd.there))
       · first | rfl | (simp [inOk, inBad]; done)
       ((with_reducible apply J.turned); exact rfl; (repeat (first | (with_reducible exact Outs.nil) | ((with_reducible apply Outs.cons); (repeat (first | with_reducible exact Out.here | with_reducible apply Out.there)))))))
    | (trace_state; fail)
theorem fail_n (p : Nat) (x : Int) (e : Int) (w : World) (hw : True) : CSpec Try.prog 113 [.pointer (some ⟨p, 0, none⟩), .int .i64 e] [blk p (inBad x) 184] w (Turns (.tuple #[]) [blk p (inBad e) 184]) := by
  refine spec_of Try.func113 rfl Try.ntmps113 rfl (l0 := [(0, .pointer (some ⟨p, 0, none⟩)), (1, .int .i64 e)]) rfl ?_
  intro fp
  repeat' first
    | ((with_reducible apply J.store1); exact rfl; exact rfl; exact rfl; (repeat (first | with_reducible exact Upd.here | with_reducible apply Upd.there)); exact (show _ = [.slice none 0 0, .int .i64 x, .bool true] from rfl); (first | (show 0 + 1 ≤ 3; decide) | (show 1 + 1 ≤ 3; decide)))
    | ((with_reducible apply J.store1); exact rfl; exact rfl; exact rfl; (repeat (first | with_reducible exact Upd.here | with_reducible apply Upd.there)); exact (show _ = inBad e from rfl); (first | (show 0 + 1 ≤ 3; decide) | (show 1 + 1 ≤ 3; decide)))
    | refine J.one ?_
    | refine J.loudS ?_
    | (refine J.loudQ ?_; intro _ _)
    | (refine J.loudB ?_; intro _)
    | (with_reducible apply J.list)
    | ((with_reducible apply J.gsplit); exact rfl; exact rfl)
    | ((with_reducible first | apply J.cond | apply JC.cond); exact rfl)
    | (intro h; exfalso; fail)
    | (intro h; (try simp only [decide_eq_true_eq, decide_eq_false_iff_not, beq_iff_eq, beq_eq_false_iff_ne, Bool.not_eq_true', Bool.not_eq_false', bne_iff_ne, bne_eq_false_iff_eq, ne_eq, ge_iff_le, gt_iff_lt] at h))
    | (with_reducible apply J.gave')
    | ((with_reducible apply J.kept'); rotate_left; (repeat (first | (with_reducible exact Outs.nil) | ((with_reducible apply Outs.cons); (repeat (first | with_reducible exact Out.here | with_reducible apply Out.there))))))
  all_goals
    first
    | (apply J.reB (b := p) (C' := inBad e)
       · (repeat (first | with_reducible exact Upd.here | with_reducible apply Upd.there))
       · first | rfl | (simp [inOk, inBad]; done)
       ((with_reducible apply J.turned); exact rfl; (repeat (first | (with_reducible exact Outs.nil) | ((with_reducible apply Outs.cons); (repeat (first | with_reducible exact Out.here | with_reducible apply Out.there)))))))
    | (trace_state; fail)
theorem take_b (p n : Nat) (e : Int) (he : e ≠ 0) (w : World) : CSpec Try.prog 111 [.pointer (some ⟨p, 0, none⟩), .int .i64 (n : Int)] [blk p (inBad e) 184] w (Keeps (.slice none 0 0) [blk p (inBad e) 184]) := by
  refine spec_of Try.func111 rfl Try.ntmps111 rfl (l0 := [(0, .pointer (some ⟨p, 0, none⟩)), (1, .int .i64 (n : Int))]) rfl ?_
  intro fp
  repeat' first
    | ((with_reducible apply J.keepsW (ok_n _ _ he)); exact rfl; exact rfl; (repeat (first | (with_reducible exact Outs.nil) | ((with_reducible apply Outs.cons); (repeat (first | with_reducible exact Out.here | with_reducible apply Out.there))))))
    | refine J.one ?_
    | refine J.loudS ?_
    | (refine J.loudQ ?_; intro _ _)
    | (refine J.loudB ?_; intro _)
    | (with_reducible apply J.list)
    | ((with_reducible apply J.gsplit); exact rfl; exact rfl)
    | ((with_reducible first | apply J.cond | apply JC.cond); exact rfl)
    | (intro h; exfalso; (first | (simp at h; done) | (simp at h; omega) | omega))
    | (intro h; (try simp only [decide_eq_true_eq, decide_eq_false_iff_not, beq_iff_eq, beq_eq_false_iff_ne, Bool.not_eq_true', Bool.not_eq_false', bne_iff_ne, bne_eq_false_iff_eq, ne_eq, ge_iff_le, gt_iff_lt] at h))
    | (with_reducible apply J.gave')
    | ((with_reducible apply J.kept'); rotate_left; (repeat (first | (with_reducible exact Outs.nil) | ((with_reducible apply Outs.cons); (repeat (first | with_reducible exact Out.here | with_reducible apply Out.there))))))
  all_goals (rfl)
theorem take_s (p n : Nat) (r : List UInt8) (s : Option Addr × Nat) (w : World) (hw : r.length < n) : CSpec Try.prog 111 [.pointer (some ⟨p, 0, none⟩), .int .i64 (n : Int)] [blk p (inOk r s) 184] w (Turns (.slice none 0 0) [blk p (inBad 16) 184]) := by
  refine spec_of Try.func111 rfl Try.ntmps111 rfl (l0 := [(0, .pointer (some ⟨p, 0, none⟩)), (1, .int .i64 (n : Int))]) rfl ?_
  intro fp
  repeat' first
    | (refine J.qr ?_; (with_reducible apply exq); focus (first
      | ((with_reducible apply Qr.load1); exact rfl; (focus ((repeat (first | with_reducible exact In.here | with_reducible apply In.there)); done)); exact rfl)))
    | ((with_reducible apply J.keepsW (ok_y _ _ _)); exact rfl; exact rfl; (repeat (first | (with_reducible exact Outs.nil) | ((with_reducible apply Outs.cons); (repeat (first | with_reducible exact Out.here | with_reducible apply Out.there))))))
    | ((with_reducible apply J.turnsP (fail_y _ _ _ 16)); exact rfl; exact rfl; (repeat (first | (with_reducible exact Outs.nil) | ((with_reducible apply Outs.cons); (repeat (first | with_reducible exact Out.here | with_reducible apply Out.there))))); (focus (trivial)); (try dsimp only [List.cons_append, List.nil_append]))
    | refine J.one ?_
    | refine J.loudS ?_
    | (refine J.loudQ ?_; intro _ _)
    | (refine J.loudB ?_; intro _)
    | (with_reducible apply J.list)
    | ((with_reducible apply J.gsplit); exact rfl; exact rfl)
    | ((with_reducible first | apply J.cond | apply JC.cond); exact rfl)
    | (intro h; exfalso; (first | (simp at h; done) | (simp at h; omega) | omega))
    | (intro h; (try simp only [decide_eq_true_eq, decide_eq_false_iff_not, beq_iff_eq, beq_eq_false_iff_ne, Bool.not_eq_true', Bool.not_eq_false', bne_iff_ne, bne_eq_false_iff_eq, ne_eq, ge_iff_le, gt_iff_lt] at h))
    | (with_reducible apply J.gave')
    | ((with_reducible apply J.kept'); rotate_left; (repeat (first | (with_reducible exact Outs.nil) | ((with_reducible apply Outs.cons); (repeat (first | with_reducible exact Out.here | with_reducible apply Out.there))))))
  all_goals (((with_reducible apply J.turned); exact rfl; (repeat (first | (with_reducible exact Outs.nil) | ((with_reducible apply Outs.cons); (repeat (first | with_reducible exact Out.here | with_reducible apply Out.there)))))))
theorem take_y (p n : Nat) (r : List UInt8) (s : Option Addr × Nat) (w : World) (hw : n ≤ r.length ∧ r.length ≤ s.2) : CSpec Try.prog 111 [.pointer (some ⟨p, 0, none⟩), .int .i64 (n : Int)] [blk p (inOk r s) 184] w (Turns (.slice (offA s.1 (0 * 1) (n - 0)) (n - 0) (n - 0)) [blk p (inOk (r.drop n) (offA s.1 (n * 1) (s.2 - n), s.2 - n)) 184]) := by
  obtain ⟨hn, hc⟩ := hw
  refine spec_of Try.func111 rfl Try.ntmps111 rfl (l0 := [(0, .pointer (some ⟨p, 0, none⟩)), (1, .int .i64 (n : Int))]) rfl ?_
  intro fp
  repeat' first
    | (refine J.qv ?_; (with_reducible apply exq); focus (first
      | ((with_reducible apply Qv.sl3 (p := 0) (r := n) (m := n)); exact rfl; exact Bd.none; exact rfl; exact rfl; exact rfl; exact rfl; (focus omega); (focus omega); (focus omega))
      | ((with_reducible apply Qv.sl (p := n) (r := r.length)); exact rfl; exact Bd.some rfl rfl; exact Bd.none; (focus omega); (focus omega))))
    | (refine J.qr ?_; (with_reducible apply exq); focus (first
      | ((with_reducible apply Qr.load1); exact rfl; (focus ((repeat (first | with_reducible exact In.here | with_reducible apply In.there)); done)); exact rfl)))
    | ((with_reducible apply J.store1); exact rfl; exact rfl; exact rfl; (repeat (first | with_reducible exact Upd.here | with_reducible apply Upd.there)); exact (show _ = [.slice (offA s.1 (n * 1) (s.2 - n)) (r.length - n) (s.2 - n), .int .i64 0, .bool true] from rfl); (show 0 + 1 ≤ 3; decide))
    | ((with_reducible apply J.keepsW (ok_y _ _ _)); exact rfl; exact rfl; (repeat (first | (with_reducible exact Outs.nil) | ((with_reducible apply Outs.cons); (repeat (first | with_reducible exact Out.here | with_reducible apply Out.there))))))
    | refine J.one ?_
    | refine J.loudS ?_
    | (refine J.loudQ ?_; intro _ _)
    | (refine J.loudB ?_; intro _)
    | (with_reducible apply J.list)
    | ((with_reducible apply J.gsplit); exact rfl; exact rfl)
    | ((with_reducible first | apply J.cond | apply JC.cond); exact rfl)
    | (intro h; exfalso; (first | (simp at h; done) | (simp at h; omega) | omega))
    | (intro h; (try simp only [decide_eq_true_eq, decide_eq_false_iff_not, beq_iff_eq, beq_eq_false_iff_ne, Bool.not_eq_true', Bool.not_eq_false', bne_iff_ne, bne_eq_false_iff_eq, ne_eq, ge_iff_le, gt_iff_lt] at h))
    | (with_reducible apply J.gave')
    | ((with_reducible apply J.kept'); rotate_left; (repeat (first | (with_reducible exact Outs.nil) | ((with_reducible apply Outs.cons); (repeat (first | with_reducible exact Out.here | with_reducible apply Out.there))))))
  all_goals
    first
    | (apply J.reB (b := p) (C' := inOk (r.drop n) (offA s.1 (n * 1) (s.2 - n), s.2 - n))
       · (repeat (first | with_reducible exact Upd.here | with_reducible apply Upd.there))
       · (unfold inOk; rw [List.length_drop])
       ((with_reducible apply J.turned); exact rfl; (repeat (first | (with_reducible exact Outs.nil) | ((with_reducible apply Outs.cons); (repeat (first | with_reducible exact Out.here | with_reducible apply Out.there)))))))
    | (trace_state; fail)
theorem pTake_b {n : Nat} {r : List UInt8} {e : Int} (he : e ≠ 0) : pTake n (r, e) = (([], e), []) := if_neg he
theorem pTake_s {n : Nat} {r : List UInt8} (h : ¬ n ≤ r.length) : pTake n (r, 0) = (([], 16), []) := (if_pos rfl).trans (if_neg h)
theorem pTake_y {n : Nat} {r : List UInt8} (h : n ≤ r.length) : pTake n (r, 0) = ((r.drop n, 0), r.take n) := (if_pos rfl).trans (if_pos h)
theorem pNum_b {m : Int} {r : List UInt8} {e : Int} (he : e ≠ 0) : pNum m (r, e) = (([], e), 0) := by
  unfold pNum
  rw [pTake_b he, if_neg (fun h => he h.1)]
  rfl
theorem pNum_s {m : Int} {r : List UInt8} (h : ¬ 6 ≤ r.length) : pNum m (r, 0) = (([], 16), 0) := by
  unfold pNum
  rw [pTake_s h, if_neg (fun h => absurd h.1 (by decide))]
  rfl
theorem pNum_f {m : Int} {r : List UInt8} (h : 6 ≤ r.length) (h2 : imin m 1099511627776 < (be (r.take 6) : Int)) : pNum m (r, 0) = (([], 4), 0) := by
  unfold pNum
  rw [pTake_y h, if_pos ⟨rfl, h2⟩]
theorem pNum_y {m : Int} {r : List UInt8} (h : 6 ≤ r.length) (h2 : ¬ imin m 1099511627776 < (be (r.take 6) : Int)) : pNum m (r, 0) = ((r.drop 6, 0), (be (r.take 6) : Int)) := by
  unfold pNum
  rw [pTake_y h, if_neg (fun h => h2 h.2)]
theorem pText_b {m : Int} {r : List UInt8} {e : Int} (he : e ≠ 0) : pText m (r, e) = (([], e), []) := by
  unfold pText
  rw [pTake_b he, if_neg (fun h => he h.1)]
  exact pTake_b he
theorem pText_s {m : Int} {r : List UInt8} (h : ¬ 2 ≤ r.length) : pText m (r, 0) = (([], 16), []) := by
  unfold pText
  rw [pTake_s h, if_neg (fun h => absurd h.1 (by decide))]
  exact pTake_b (by decide)
theorem pText_f {m : Int} {r : List UInt8} (h : 2 ≤ r.length) (h2 : imin m 1024 < (be (r.take 2) : Int)) : pText m (r, 0) = (([], 4), []) := by
  unfold pText
  rw [pTake_y h, if_pos ⟨rfl, h2⟩]
theorem pText_t {m : Int} {r : List UInt8} (h : 2 ≤ r.length) (h2 : ¬ imin m 1024 < (be (r.take 2) : Int)) (h3 : ¬ be (r.take 2) ≤ (r.drop 2).length) : pText m (r, 0) = (([], 16), []) := by
  unfold pText
  rw [pTake_y h, if_neg (fun h => h2 h.2)]
  exact pTake_s h3
theorem pText_y {m : Int} {r : List UInt8} (h : 2 ≤ r.length) (h2 : ¬ imin m 1024 < (be (r.take 2) : Int)) (h3 : be (r.take 2) ≤ (r.drop 2).length) : pText m (r, 0) = (((r.drop 2).drop (be (r.take 2)), 0), (r.drop 2).take (be (r.take 2))) := by
  unfold pText
  rw [pTake_y h, if_neg (fun h => h2 h.2)]
  exact pTake_y h3
theorem offz (ao : Option Addr) (m : Nat) : offA ao (0 * 1) m = offA ao 0 m := by rw [Nat.zero_mul]
theorem Rd.head {w : World} {ao : Option Addr} {r : List UInt8} {n : Nat} (h : Rd w ao (bcs r)) (hn : n ≤ r.length) : Rd w (offA ao (0 * 1) (n - 0)) (bcs (r.take n)) := by
  have h2 := Rd.off h (0 * 1) n (n - 0) (by omega)
  rw [Nat.zero_mul, List.drop_zero, bcs_take] at h2
  rw [Nat.zero_mul]
  exact h2
theorem num_b (p : Nat) (q : Option Addr × Nat) (L : List UInt8) (m : Int) (e : Int) (he : e ≠ 0) (w : World) : CSpec Try.prog 82 [.pointer (some ⟨p, 0, none⟩), .int .i64 m] [blk p (inBad e) 184, row (.slice q.1 L.length q.2) 5 1 L.length (bcs L)] w (RdP p q L (.int .i64 0) ([], e)) := by
  refine spec_of Try.func82 rfl Try.ntmps82 rfl (l0 := [(0, .pointer (some ⟨p, 0, none⟩)), (1, .int .i64 m)]) rfl ?_
  intro fp
  repeat' first
    | ((with_reducible apply J.keepsW (take_b _ 6 _ he)); exact rfl; exact rfl; (repeat (first | (with_reducible exact Outs.nil) | ((with_reducible apply Outs.cons); (repeat (first | with_reducible exact Out.here | with_reducible apply Out.there))))))
    | ((with_reducible apply J.givesR (int_ none 0 0 [])); exact rfl; exact rfl; focus (exact RH.and RH.nil (RH.of ⟨rfl, by decide, by decide⟩)))
    | ((with_reducible apply J.keepsW (ok_n _ _ he)); exact rfl; exact rfl; (repeat (first | (with_reducible exact Outs.nil) | ((with_reducible apply Outs.cons); (repeat (first | with_reducible exact Out.here | with_reducible apply Out.there))))))
    | refine J.one ?_
    | refine J.loudS ?_
    | (refine J.loudQ ?_; intro _ _)
    | (refine J.loudB ?_; intro _)
    | (with_reducible apply J.list)
    | ((with_reducible apply J.gsplit); exact rfl; exact rfl)
    | ((with_reducible first | apply J.cond | apply JC.cond); exact rfl)
    | (intro h; exfalso; (first | (simp at h; done) | (simp at h; omega) | omega))
    | (intro h; (try simp only [decide_eq_true_eq, decide_eq_false_iff_not, beq_iff_eq, beq_eq_false_iff_ne, Bool.not_eq_true', Bool.not_eq_false', bne_iff_ne, bne_eq_false_iff_eq, ne_eq, ge_iff_le, gt_iff_lt] at h))
    | (with_reducible apply J.gave')
    | ((with_reducible apply J.kept'); rotate_left; (repeat (first | (with_reducible exact Outs.nil) | ((with_reducible apply Outs.cons); (repeat (first | with_reducible exact Out.here | with_reducible apply Out.there))))))
  all_goals first
    | (apply J.reB (b := p) (C' := inC ([], e) (none, 0))
       · (repeat (first | with_reducible exact Upd.here | with_reducible apply Upd.there))
       · exact (inC_n (by first | assumption | decide)).symm
       apply J.endRd (OKs.bad q L (by first | assumption | decide) _)
       · rfl
       · (repeat (first | (with_reducible exact Outs.nil) | ((with_reducible apply Outs.cons); (repeat (first | with_reducible exact Out.here | with_reducible apply Out.there))))))
    | (trace_state; fail)
theorem num_s (p : Nat) (q : Option Addr × Nat) (L : List UInt8) (m : Int) (r : List UInt8) (s : Option Addr × Nat) (hr : ¬ 6 ≤ r.length) (w : World) : CSpec Try.prog 82 [.pointer (some ⟨p, 0, none⟩), .int .i64 m] [blk p (inOk r s) 184, row (.slice q.1 L.length q.2) 5 1 L.length (bcs L)] w (RdP p q L (.int .i64 0) ([], 16)) := by
  refine spec_of Try.func82 rfl Try.ntmps82 rfl (l0 := [(0, .pointer (some ⟨p, 0, none⟩)), (1, .int .i64 m)]) rfl ?_
  intro fp
  repeat' first
    | ((with_reducible apply J.turnsP (take_s _ 6 _ _)); exact rfl; exact rfl; (repeat (first | (with_reducible exact Outs.nil) | ((with_reducible apply Outs.cons); (repeat (first | with_reducible exact Out.here | with_reducible apply Out.there))))); (focus (omega)); (try dsimp only [List.cons_append, List.nil_append]))
    | ((with_reducible apply J.givesR (int_ none 0 0 [])); exact rfl; exact rfl; focus (exact RH.and RH.nil (RH.of ⟨rfl, by decide, by decide⟩)))
    | ((with_reducible apply J.keepsW (ok_n _ 16 (by decide))); exact rfl; exact rfl; (repeat (first | (with_reducible exact Outs.nil) | ((with_reducible apply Outs.cons); (repeat (first | with_reducible exact Out.here | with_reducible apply Out.there))))))
    | refine J.one ?_
    | refine J.loudS ?_
    | (refine J.loudQ ?_; intro _ _)
    | (refine J.loudB ?_; intro _)
    | (with_reducible apply J.list)
    | ((with_reducible apply J.gsplit); exact rfl; exact rfl)
    | ((with_reducible first | apply J.cond | apply JC.cond); exact rfl)
    | (intro h; exfalso; (first | (simp at h; done) | (simp at h; omega) | omega))
    | (intro h; (try simp only [decide_eq_true_eq, decide_eq_false_iff_not, beq_iff_eq, beq_eq_false_iff_ne, Bool.not_eq_true', Bool.not_eq_false', bne_iff_ne, bne_eq_false_iff_eq, ne_eq, ge_iff_le, gt_iff_lt] at h))
    | (with_reducible apply J.gave')
    | ((with_reducible apply J.kept'); rotate_left; (repeat (first | (with_reducible exact Outs.nil) | ((with_reducible apply Outs.cons); (repeat (first | with_reducible exact Out.here | with_reducible apply Out.there))))))
  all_goals first
    | (apply J.reB (b := p) (C' := inC ([], 16) (none, 0))
       · (repeat (first | with_reducible exact Upd.here | with_reducible apply Upd.there))
       · exact (inC_n (by first | assumption | decide)).symm
       apply J.endRd (OKs.bad q L (by first | assumption | decide) _)
       · rfl
       · (repeat (first | (with_reducible exact Outs.nil) | ((with_reducible apply Outs.cons); (repeat (first | with_reducible exact Out.here | with_reducible apply Out.there))))))
    | (trace_state; fail)
theorem num_y (p : Nat) (q : Option Addr × Nat) (L : List UInt8) (m : Int) (r : List UInt8) (s : Option Addr × Nat) (hr : 6 ≤ r.length) (hok : OKs q L (r, 0) s) (w : World) : CSpec Try.prog 82 [.pointer (some ⟨p, 0, none⟩), .int .i64 m] [blk p (inOk r s) 184, row (.slice q.1 L.length q.2) 5 1 L.length (bcs L)] w (RdP p q L (.int .i64 (pNum m (r, 0)).2) ((pNum m (r, 0)).1)) := by
  have hc := hok.c rfl
  dsimp only at hc
  refine spec_of Try.func82 rfl Try.ntmps82 rfl (l0 := [(0, .pointer (some ⟨p, 0, none⟩)), (1, .int .i64 m)]) rfl ?_
  intro fp
  repeat' first
    | ((with_reducible apply J.turnsP (take_y _ 6 _ _)); exact rfl; exact rfl; (repeat (first | (with_reducible exact Outs.nil) | ((with_reducible apply Outs.cons); (repeat (first | with_reducible exact Out.here | with_reducible apply Out.there))))); (focus (exact ⟨hr, hc⟩)); (try dsimp only [List.cons_append, List.nil_append]))
    | ((with_reducible apply J.givesR (int_ _ _ _ (r.take 6))); exact rfl; exact rfl; focus (exact RH.and (fun w2 s2 => Rd.head (RH.sfx (hok.r rfl) (by (repeat (first | with_reducible exact In.here | with_reducible apply In.there))) w2 s2) hr) (RH.of ⟨by rw [List.length_take]; omega, by omega, by rw [List.length_take]; omega⟩)))
    | ((with_reducible apply J.keepsW (ok_y _ _ _)); exact rfl; exact rfl; (repeat (first | (with_reducible exact Outs.nil) | ((with_reducible apply Outs.cons); (repeat (first | with_reducible exact Out.here | with_reducible apply Out.there))))))
    | ((with_reducible apply J.turnsP (fail_y _ _ _ 4)); exact rfl; exact rfl; (repeat (first | (with_reducible exact Outs.nil) | ((with_reducible apply Outs.cons); (repeat (first | with_reducible exact Out.here | with_reducible apply Out.there))))); (focus (trivial)); (try dsimp only [List.cons_append, List.nil_append]))
    | refine J.one ?_
    | refine J.loudS ?_
    | (refine J.loudQ ?_; intro _ _)
    | (refine J.loudB ?_; intro _)
    | (with_reducible apply J.list)
    | ((with_reducible apply J.gsplit); exact rfl; exact rfl)
    | ((with_reducible first | apply J.cond | apply JC.cond); exact rfl)
    | (intro h; exfalso; (first | (simp at h; done) | (simp at h; omega) | omega))
    | (intro h; (try simp only [decide_eq_true_eq, decide_eq_false_iff_not, beq_iff_eq, beq_eq_false_iff_ne, Bool.not_eq_true', Bool.not_eq_false', bne_iff_ne, bne_eq_false_iff_eq, ne_eq, ge_iff_le, gt_iff_lt] at h))
    | (with_reducible apply J.gave')
    | ((with_reducible apply J.kept'); rotate_left; (repeat (first | (with_reducible exact Outs.nil) | ((with_reducible apply Outs.cons); (repeat (first | with_reducible exact Out.here | with_reducible apply Out.there))))))
  all_goals first
    | (rw [pNum_f hr (by assumption)]
       apply J.reB (b := p) (C' := inC ([], 4) (none, 0))
       · (repeat (first | with_reducible exact Upd.here | with_reducible apply Upd.there))
       · exact (inC_n (by first | assumption | decide)).symm
       apply J.endRd (OKs.bad q L (by first | assumption | decide) _)
       · rfl
       · (repeat (first | (with_reducible exact Outs.nil) | ((with_reducible apply Outs.cons); (repeat (first | with_reducible exact Out.here | with_reducible apply Out.there))))))
    | (rw [pNum_y hr (by assumption)]
       apply J.reB (b := p) (C' := inC (r.drop 6, 0) (offA s.1 (6 * 1) (s.2 - 6), s.2 - 6))
       · (repeat (first | with_reducible exact Upd.here | with_reducible apply Upd.there))
       · exact inC_y.symm
       apply J.endRd (hok.drop hr)
       · rfl
       · (repeat (first | (with_reducible exact Outs.nil) | ((with_reducible apply Outs.cons); (repeat (first | with_reducible exact Out.here | with_reducible apply Out.there))))))
    | (trace_state; fail)
end Go.Proofs.Ytfcaeifpclpnoaa.Fld
namespace Go.Proofs.Ytfcaeifpclpnoaa.Fld2
open Go Go.RowKit Eng
set_option linter.unusedVariables false
set_option maxRecDepth 100000
set_option linter.unusedSimpArgs false
open Sha Iter Hash Bytes Hsum Wide Tx Field Deal Msg Fld
set_option maxHeartbeats 1000000
theorem int_k (ao : Option Addr) (n cap : Nat) (l : List UInt8) (k : Nat) (hk : be l = k) (w : World) (hw : Rd w ao (bcs l) ∧ n = l.length ∧ n ≤ cap ∧ l.length ≤ 7) : CSpec Try.prog 110 [.slice ao n cap] [] w (Gives (.int .i64 (k : Int))) := hk ▸ int_ ao n cap l w hw
theorem num_ (p : Nat) (q : Option Addr × Nat) (L : List UInt8) (m : Int) (z : Pz) (s : Option Addr × Nat) (hok : OKs q L z s) (w : World) : CSpec Try.prog 82 [.pointer (some ⟨p, 0, none⟩), .int .i64 m] [blk p (inC z s) 184, row (.slice q.1 L.length q.2) 5 1 L.length (bcs L)] w (RdP p q L (.int .i64 (pNum m z).2) (pNum m z).1) := by
  obtain ⟨r, e⟩ := z
  by_cases he : e = 0
  · subst he
    rw [inC_y]
    by_cases hr : 6 ≤ r.length
    · exact num_y p q L m r s hr hok w
    · rw [pNum_s hr]
      exact num_s p q L m r s hr w
  · rw [inC_n he, pNum_b he]
    exact num_b p q L m e he w
theorem text_b (p : Nat) (q : Option Addr × Nat) (L : List UInt8) (m : Int) (e : Int) (he : e ≠ 0) (w : World) : CSpec Try.prog 85 [.pointer (some ⟨p, 0, none⟩), .int .i64 m] [blk p (inBad e) 184, row (.slice q.1 L.length q.2) 5 1 L.length (bcs L)] w (RdP p q L (str []) ([], e)) := by
  refine spec_of Try.func85 rfl Try.ntmps85 rfl (l0 := [(0, .pointer (some ⟨p, 0, none⟩)), (1, .int .i64 m)]) rfl ?_
  intro fp
  repeat' first
    | (refine J.qr ?_; (with_reducible apply exq); focus (first
      | ((with_reducible apply Qr.toStr (bs := [])); exact rfl; (exact RH.nil); rfl)))
    | ((with_reducible apply J.keepsW (take_b _ 2 _ he)); exact rfl; exact rfl; (repeat (first | (with_reducible exact Outs.nil) | ((with_reducible apply Outs.cons); (repeat (first | with_reducible exact Out.here | with_reducible apply Out.there))))))
    | ((with_reducible apply J.givesR (int_ none 0 0 [])); exact rfl; exact rfl; focus (exact RH.and RH.nil (RH.of ⟨rfl, by decide, by decide⟩)))
    | ((with_reducible apply J.keepsW (ok_n _ _ he)); exact rfl; exact rfl; (repeat (first | (with_reducible exact Outs.nil) | ((with_reducible apply Outs.cons); (repeat (first | with_reducible exact Out.here | with_reducible apply Out.there))))))
    | ((with_reducible apply J.keepsW (take_b _ 0 _ he)); exact rfl; exact rfl; (repeat (first | (with_reducible exact Outs.nil) | ((with_reducible apply Outs.cons); (repeat (first | with_reducible exact Out.here | with_reducible apply Out.there))))))
    | refine J.one ?_
    | refine J.loudS ?_
    | (refine J.loudQ ?_; intro _ _)
    | (refine J.loudB ?_; intro _)
    | (with_reducible apply J.list)
    | ((with_reducible apply J.gsplit); exact rfl; exact rfl)
    | ((with_reducible first | apply J.cond | apply JC.cond); exact rfl)
    | (intro h; exfalso; (first | (simp at h; done) | (simp at h; omega) | omega))
    | (intro h; (try simp only [decide_eq_true_eq, decide_eq_false_iff_not, beq_iff_eq, beq_eq_false_iff_ne, Bool.not_eq_true', Bool.not_eq_false', bne_iff_ne, bne_eq_false_iff_eq, ne_eq, ge_iff_le, gt_iff_lt] at h))
    | (with_reducible apply J.gave')
    | ((with_reducible apply J.kept'); rotate_left; (repeat (first | (with_reducible exact Outs.nil) | ((with_reducible apply Outs.cons); (repeat (first | with_reducible exact Out.here | with_reducible apply Out.there))))))
  all_goals first
    | (apply J.reB (b := p) (C' := inC ([], e) (none, 0))
       · (repeat (first | with_reducible exact Upd.here | with_reducible apply Upd.there))
       · exact (inC_n (by first | assumption | decide)).symm
       apply J.endRd (OKs.bad q L (by first | assumption | decide) _)
       · rfl
       · (repeat (first | (with_reducible exact Outs.nil) | ((with_reducible apply Outs.cons); (repeat (first | with_reducible exact Out.here | with_reducible apply Out.there))))))
    | (trace_state; fail)
theorem text_s (p : Nat) (q : Option Addr × Nat) (L : List UInt8) (m : Int) (r : List UInt8) (s : Option Addr × Nat) (hr : ¬ 2 ≤ r.length) (w : World) : CSpec Try.prog 85 [.pointer (some ⟨p, 0, none⟩), .int .i64 m] [blk p (inOk r s) 184, row (.slice q.1 L.length q.2) 5 1 L.length (bcs L)] w (RdP p q L (str []) ([], 16)) := by
  refine spec_of Try.func85 rfl Try.ntmps85 rfl (l0 := [(0, .pointer (some ⟨p, 0, none⟩)), (1, .int .i64 m)]) rfl ?_
  intro fp
  repeat' first
    | (refine J.qr ?_; (with_reducible apply exq); focus (first
      | ((with_reducible apply Qr.toStr (bs := [])); exact rfl; (exact RH.nil); rfl)))
    | ((with_reducible apply J.turnsP (take_s _ 2 _ _)); exact rfl; exact rfl; (repeat (first | (with_reducible exact Outs.nil) | ((with_reducible apply Outs.cons); (repeat (first | with_reducible exact Out.here | with_reducible apply Out.there))))); (focus (omega)); (try dsimp only [List.cons_append, List.nil_append]))
    | ((with_reducible apply J.givesR (int_ none 0 0 [])); exact rfl; exact rfl; focus (exact RH.and RH.nil (RH.of ⟨rfl, by decide, by decide⟩)))
    | ((with_reducible apply J.keepsW (ok_n _ 16 (by decide))); exact rfl; exact rfl; (repeat (first | (with_reducible exact Outs.nil) | ((with_reducible apply Outs.cons); (repeat (first | with_reducible exact Out.here | with_reducible apply Out.there))))))
    | ((with_reducible apply J.keepsW (take_b _ 0 _ (by decide : (16 : Int) ≠ 0))); exact rfl; exact rfl; (repeat (first | (with_reducible exact Outs.nil) | ((with_reducible apply Outs.cons); (repeat (first | with_reducible exact Out.here | with_reducible apply Out.there))))))
    | refine J.one ?_
    | refine J.loudS ?_
    | (refine J.loudQ ?_; intro _ _)
    | (refine J.loudB ?_; intro _)
    | (with_reducible apply J.list)
    | ((with_reducible apply J.gsplit); exact rfl; exact rfl)
    | ((with_reducible first | apply J.cond | apply JC.cond); exact rfl)
    | (intro h; exfalso; (first | (simp at h; done) | (simp at h; omega) | omega))
    | (intro h; (try simp only [decide_eq_true_eq, decide_eq_false_iff_not, beq_iff_eq, beq_eq_false_iff_ne, Bool.not_eq_true', Bool.not_eq_false', bne_iff_ne, bne_eq_false_iff_eq, ne_eq, ge_iff_le, gt_iff_lt] at h))
    | (with_reducible apply J.gave')
    | ((with_reducible apply J.kept'); rotate_left; (repeat (first | (with_reducible exact Outs.nil) | ((with_reducible apply Outs.cons); (repeat (first | with_reducible exact Out.here | with_reducible apply Out.there))))))
  all_goals first
    | (apply J.reB (b := p) (C' := inC ([], 16) (none, 0))
       · (repeat (first | with_reducible exact Upd.here | with_reducible apply Upd.there))
       · exact (inC_n (by first | assumption | decide)).symm
       apply J.endRd (OKs.bad q L (by first | assumption | decide) _)
       · rfl
       · (repeat (first | (with_reducible exact Outs.nil) | ((with_reducible apply Outs.cons); (repeat (first | with_reducible exact Out.here | with_reducible apply Out.there))))))
    | (trace_state; fail)
theorem text_y (p : Nat) (q : Option Addr × Nat) (L : List UInt8) (m : Int) (r : List UInt8) (s : Option Addr × Nat) (hr : 2 ≤ r.length) (hok : OKs q L (r, 0) s) (w : World) : CSpec Try.prog 85 [.pointer (some ⟨p, 0, none⟩), .int .i64 m] [blk p (inOk r s) 184, row (.slice q.1 L.length q.2) 5 1 L.length (bcs L)] w (RdP p q L (str (pText m (r, 0)).2) ((pText m (r, 0)).1)) := by
  have hc := hok.c rfl
  have hok2 := hok.drop hr
  have hc2 := hok2.c rfl
  dsimp only at hc hc2
  obtain ⟨k, hk0⟩ : ∃ k, be (r.take 2) = k := ⟨_, rfl⟩
  refine spec_of Try.func85 rfl Try.ntmps85 rfl (l0 := [(0, .pointer (some ⟨p, 0, none⟩)), (1, .int .i64 m)]) rfl ?_
  intro fp
  by_cases hk : k ≤ (r.drop 2).length
  · skip
    repeat' first
      | (refine J.qr ?_; (with_reducible apply exq); focus (first
        | ((with_reducible apply Qr.toStr (bs := (r.drop 2).take k)); exact rfl; (exact fun w2 s2 => Rd.head (RH.sfx (hok2.r rfl) (by (repeat (first | with_reducible exact In.here | with_reducible apply In.there))) w2 s2) hk); (rw [List.length_take]; omega))
        | ((with_reducible apply Qr.toStr (bs := [])); exact rfl; (exact RH.nil); rfl)))
      | ((with_reducible apply J.turnsP (take_y _ 2 _ _)); exact rfl; exact rfl; (repeat (first | (with_reducible exact Outs.nil) | ((with_reducible apply Outs.cons); (repeat (first | with_reducible exact Out.here | with_reducible apply Out.there))))); (focus (exact ⟨hr, hc⟩)); (try dsimp only [List.cons_append, List.nil_append]))
      | ((with_reducible apply J.givesR (int_k _ _ _ (r.take 2) k hk0)); exact rfl; exact rfl; focus (exact RH.and (fun w2 s2 => Rd.head (RH.sfx (hok.r rfl) (by (repeat (first | with_reducible exact In.here | with_reducible apply In.there))) w2 s2) hr) (RH.of ⟨by rw [List.length_take]; omega, by omega, by rw [List.length_take]; omega⟩)))
      | ((with_reducible apply J.keepsW (ok_y _ _ _)); exact rfl; exact rfl; (repeat (first | (with_reducible exact Outs.nil) | ((with_reducible apply Outs.cons); (repeat (first | with_reducible exact Out.here | with_reducible apply Out.there))))))
      | ((with_reducible apply J.turnsP (fail_y _ _ _ 4)); exact rfl; exact rfl; (repeat (first | (with_reducible exact Outs.nil) | ((with_reducible apply Outs.cons); (repeat (first | with_reducible exact Out.here | with_reducible apply Out.there))))); (focus (trivial)); (try dsimp only [List.cons_append, List.nil_append]))
      | ((with_reducible apply J.turnsP (take_y _ k _ _)); exact rfl; exact rfl; (repeat (first | (with_reducible exact Outs.nil) | ((with_reducible apply Outs.cons); (repeat (first | with_reducible exact Out.here | with_reducible apply Out.there))))); (focus (exact ⟨hk, hc2⟩)); (try dsimp only [List.cons_append, List.nil_append]))
      | ((with_reducible apply J.turnsP (take_s _ k _ _)); exact rfl; exact rfl; (repeat (first | (with_reducible exact Outs.nil) | ((with_reducible apply Outs.cons); (repeat (first | with_reducible exact Out.here | with_reducible apply Out.there))))); (focus (omega)); (try dsimp only [List.cons_append, List.nil_append]))
      | refine J.one ?_
      | refine J.loudS ?_
      | (refine J.loudQ ?_; intro _ _)
      | (refine J.loudB ?_; intro _)
      | (with_reducible apply J.list)
      | ((with_reducible apply J.gsplit); exact rfl; exact rfl)
      | ((with_reducible first | apply J.cond | apply JC.cond); exact rfl)
      | (intro h; exfalso; (first | (simp at h; done) | (simp at h; omega) | omega))
      | (intro h; (try simp only [decide_eq_true_eq, decide_eq_false_iff_not, beq_iff_eq, beq_eq_false_iff_ne, Bool.not_eq_true', Bool.not_eq_false', bne_iff_ne, bne_eq_false_iff_eq, ne_eq, ge_iff_le, gt_iff_lt] at h))
      | (with_reducible apply J.gave')
      | ((with_reducible apply J.kept'); rotate_left; (repeat (first | (with_reducible exact Outs.nil) | ((with_reducible apply Outs.cons); (repeat (first | with_reducible exact Out.here | with_reducible apply Out.there))))))
    all_goals first
      | (rw [pText_f hr (by rw [hk0]; assumption)]
         apply J.reB (b := p) (C' := inC ([], 4) (none, 0))
         · (repeat (first | with_reducible exact Upd.here | with_reducible apply Upd.there))
         · exact (inC_n (by first | assumption | decide)).symm
         apply J.endRd (OKs.bad q L (by first | assumption | decide) _)
         · rfl
         · (repeat (first | (with_reducible exact Outs.nil) | ((with_reducible apply Outs.cons); (repeat (first | with_reducible exact Out.here | with_reducible apply Out.there))))))
      | (rw [pText_y hr (by rw [hk0]; assumption) (by rw [hk0]; exact hk), hk0]
         apply J.reB (b := p) (C' := inC ((r.drop 2).drop k, 0) (offA (offA s.1 (2 * 1) (s.2 - 2)) (k * 1) (s.2 - 2 - k), s.2 - 2 - k))
         · (repeat (first | with_reducible exact Upd.here | with_reducible apply Upd.there))
         · exact inC_y.symm
         apply J.endRd (hok2.drop hk)
         · rfl
         · (repeat (first | (with_reducible exact Outs.nil) | ((with_reducible apply Outs.cons); (repeat (first | with_reducible exact Out.here | with_reducible apply Out.there))))))
      | (trace_state; fail)
  · skip
    repeat' first
      | (refine J.qr ?_; (with_reducible apply exq); focus (first
        | ((with_reducible apply Qr.toStr (bs := [])); exact rfl; (exact RH.nil); rfl)
        | ((with_reducible apply Qr.toStr (bs := [])); exact rfl; (exact RH.nil); rfl)))
      | ((with_reducible apply J.turnsP (take_y _ 2 _ _)); exact rfl; exact rfl; (repeat (first | (with_reducible exact Outs.nil) | ((with_reducible apply Outs.cons); (repeat (first | with_reducible exact Out.here | with_reducible apply Out.there))))); (focus (exact ⟨hr, hc⟩)); (try dsimp only [List.cons_append, List.nil_append]))
      | ((with_reducible apply J.givesR (int_k _ _ _ (r.take 2) k hk0)); exact rfl; exact rfl; focus (exact RH.and (fun w2 s2 => Rd.head (RH.sfx (hok.r rfl) (by (repeat (first | with_reducible exact In.here | with_reducible apply In.there))) w2 s2) hr) (RH.of ⟨by rw [List.length_take]; omega, by omega, by rw [List.length_take]; omega⟩)))
      | ((with_reducible apply J.keepsW (ok_y _ _ _)); exact rfl; exact rfl; (repeat (first | (with_reducible exact Outs.nil) | ((with_reducible apply Outs.cons); (repeat (first | with_reducible exact Out.here | with_reducible apply Out.there))))))
      | ((with_reducible apply J.turnsP (fail_y _ _ _ 4)); exact rfl; exact rfl; (repeat (first | (with_reducible exact Outs.nil) | ((with_reducible apply Outs.cons); (repeat (first | with_reducible exact Out.here | with_reducible apply Out.there))))); (focus (trivial)); (try dsimp only [List.cons_append, List.nil_append]))
      | ((with_reducible apply J.turnsP (take_y _ k _ _)); exact rfl; exact rfl; (repeat (first | (with_reducible exact Outs.nil) | ((with_reducible apply Outs.cons); (repeat (first | with_reducible exact Out.here | with_reducible apply Out.there))))); (focus (omega)); (try dsimp only [List.cons_append, List.nil_append]))
      | ((with_reducible apply J.turnsP (take_s _ k _ _)); exact rfl; exact rfl; (repeat (first | (with_reducible exact Outs.nil) | ((with_reducible apply Outs.cons); (repeat (first | with_reducible exact Out.here | with_reducible apply Out.there))))); (focus (omega)); (try dsimp only [List.cons_append, List.nil_append]))
      | refine J.one ?_
      | refine J.loudS ?_
      | (refine J.loudQ ?_; intro _ _)
      | (refine J.loudB ?_; intro _)
      | (with_reducible apply J.list)
      | ((with_reducible apply J.gsplit); exact rfl; exact rfl)
      | ((with_reducible first | apply J.cond | apply JC.cond); exact rfl)
      | (intro h; exfalso; (first | (simp at h; done) | (simp at h; omega) | omega))
      | (intro h; (try simp only [decide_eq_true_eq, decide_eq_false_iff_not, beq_iff_eq, beq_eq_false_iff_ne, Bool.not_eq_true', Bool.not_eq_false', bne_iff_ne, bne_eq_false_iff_eq, ne_eq, ge_iff_le, gt_iff_lt] at h))
      | (with_reducible apply J.gave')
      | ((with_reducible apply J.kept'); rotate_left; (repeat (first | (with_reducible exact Outs.nil) | ((with_reducible apply Outs.cons); (repeat (first | with_reducible exact Out.here | with_reducible apply Out.there))))))
    all_goals first
      | (rw [pText_f hr (by rw [hk0]; assumption)]
         apply J.reB (b := p) (C' := inC ([], 4) (none, 0))
         · (repeat (first | with_reducible exact Upd.here | with_reducible apply Upd.there))
         · exact (inC_n (by first | assumption | decide)).symm
         apply J.endRd (OKs.bad q L (by first | assumption | decide) _)
         · rfl
         · (repeat (first | (with_reducible exact Outs.nil) | ((with_reducible apply Outs.cons); (repeat (first | with_reducible exact Out.here | with_reducible apply Out.there))))))
      | (rw [pText_t hr (by rw [hk0]; assumption) (by rw [hk0]; exact hk)]
         apply J.reB (b := p) (C' := inC ([], 16) (none, 0))
         · (repeat (first | with_reducible exact Upd.here | with_reducible apply Upd.there))
         · exact (inC_n (by first | assumption | decide)).symm
         apply J.endRd (OKs.bad q L (by first | assumption | decide) _)
         · rfl
         · (repeat (first | (with_reducible exact Outs.nil) | ((with_reducible apply Outs.cons); (repeat (first | with_reducible exact Out.here | with_reducible apply Out.there))))))
      | (trace_state; fail)
theorem text_r (p : Nat) (q : Option Addr × Nat) (L : List UInt8) (m : Int) (z : Pz) (s : Option Addr × Nat) (hok : OKs q L z s) (w : World) : CSpec Try.prog 85 [.pointer (some ⟨p, 0, none⟩), .int .i64 m] [blk p (inC z s) 184, row (.slice q.1 L.length q.2) 5 1 L.length (bcs L)] w (RdP p q L (str (pText m z).2) (pText m z).1) := by
  obtain ⟨r, e⟩ := z
  by_cases he : e = 0
  · subst he
    rw [inC_y]
    by_cases hr : 2 ≤ r.length
    · exact text_y p q L m r s hr hok w
    · rw [pText_s hr]
      exact text_s p q L m r s hr w
  · rw [inC_n he, pText_b he]
    exact text_b p q L m e he w
theorem err_y (p : Nat) (r : List UInt8) (s : Option Addr × Nat) (w : World) : CSpec Try.prog 88 [.pointer (some ⟨p, 0, none⟩)] [blk p (inOk r s) 184] w (Keeps (.int .i64 0) [blk p (inOk r s) 184]) := by
  refine spec_of Try.func88 rfl Try.ntmps88 rfl (l0 := [(0, .pointer (some ⟨p, 0, none⟩))]) rfl ?_
  intro fp
  repeat' first
    | (refine J.qr ?_; (with_reducible apply exq); focus (first
      | ((with_reducible apply Qr.load1); exact rfl; (focus ((repeat (first | with_reducible exact In.here | with_reducible apply In.there)); done)); exact rfl)))
    | refine J.one ?_
    | refine J.loudS ?_
    | (refine J.loudQ ?_; intro _ _)
    | (refine J.loudB ?_; intro _)
    | (with_reducible apply J.list)
    | ((with_reducible apply J.gsplit); exact rfl; exact rfl)
    | ((with_reducible first | apply J.cond | apply JC.cond); exact rfl)
    | (intro h; exfalso; (simp at h; done))
    | (intro h; (try simp only [decide_eq_true_eq, decide_eq_false_iff_not, beq_iff_eq, beq_eq_false_iff_ne, Bool.not_eq_true', Bool.not_eq_false', bne_iff_ne, bne_eq_false_iff_eq, ne_eq, ge_iff_le, gt_iff_lt] at h))
    | (with_reducible apply J.gave')
    | ((with_reducible apply J.kept'); rotate_left; (repeat (first | (with_reducible exact Outs.nil) | ((with_reducible apply Outs.cons); (repeat (first | with_reducible exact Out.here | with_reducible apply Out.there))))))
  all_goals (rfl)
theorem err_n (p : Nat) (e : Int) (w : World) : CSpec Try.prog 88 [.pointer (some ⟨p, 0, none⟩)] [blk p (inBad e) 184] w (Keeps (.int .i64 e) [blk p (inBad e) 184]) := by
  refine spec_of Try.func88 rfl Try.ntmps88 rfl (l0 := [(0, .pointer (some ⟨p, 0, none⟩))]) rfl ?_
  intro fp
  repeat' first
    | (refine J.qr ?_; (with_reducible apply exq); focus (first
      | ((with_reducible apply Qr.load1); exact rfl; (focus ((repeat (first | with_reducible exact In.here | with_reducible apply In.there)); done)); exact rfl)))
    | refine J.one ?_
    | refine J.loudS ?_
    | (refine J.loudQ ?_; intro _ _)
    | (refine J.loudB ?_; intro _)
    | (with_reducible apply J.list)
    | ((with_reducible apply J.gsplit); exact rfl; exact rfl)
    | ((with_reducible first | apply J.cond | apply JC.cond); exact rfl)
    | (intro h; exfalso; (simp at h; done))
    | (intro h; (try simp only [decide_eq_true_eq, decide_eq_false_iff_not, beq_iff_eq, beq_eq_false_iff_ne, Bool.not_eq_true', Bool.not_eq_false', bne_iff_ne, bne_eq_false_iff_eq, ne_eq, ge_iff_le, gt_iff_lt] at h))
    | (with_reducible apply J.gave')
    | ((with_reducible apply J.kept'); rotate_left; (repeat (first | (with_reducible exact Outs.nil) | ((with_reducible apply Outs.cons); (repeat (first | with_reducible exact Out.here | with_reducible apply Out.there))))))
  all_goals (rfl)
theorem left_y (p : Nat) (r : List UInt8) (s : Option Addr × Nat) (w : World) : CSpec Try.prog 89 [.pointer (some ⟨p, 0, none⟩)] [blk p (inOk r s) 184] w (Keeps (.int .i64 (r.length : Int)) [blk p (inOk r s) 184]) := by
  refine spec_of Try.func89 rfl Try.ntmps89 rfl (l0 := [(0, .pointer (some ⟨p, 0, none⟩))]) rfl ?_
  intro fp
  repeat' first
    | (refine J.qr ?_; (with_reducible apply exq); focus (first
      | ((with_reducible apply Qr.load1); exact rfl; (focus ((repeat (first | with_reducible exact In.here | with_reducible apply In.there)); done)); exact rfl)))
    | refine J.one ?_
    | refine J.loudS ?_
    | (refine J.loudQ ?_; intro _ _)
    | (refine J.loudB ?_; intro _)
    | (with_reducible apply J.list)
    | ((with_reducible apply J.gsplit); exact rfl; exact rfl)
    | ((with_reducible first | apply J.cond | apply JC.cond); exact rfl)
    | (intro h; exfalso; (simp at h; done))
    | (intro h; (try simp only [decide_eq_true_eq, decide_eq_false_iff_not, beq_iff_eq, beq_eq_false_iff_ne, Bool.not_eq_true', Bool.not_eq_false', bne_iff_ne, bne_eq_false_iff_eq, ne_eq, ge_iff_le, gt_iff_lt] at h))
    | (with_reducible apply J.gave')
    | ((with_reducible apply J.kept'); rotate_left; (repeat (first | (with_reducible exact Outs.nil) | ((with_reducible apply Outs.cons); (repeat (first | with_reducible exact Out.here | with_reducible apply Out.there))))))
  all_goals (rfl)
theorem spoil_y (p : Nat) (r : List UInt8) (s : Option Addr × Nat) (w : World) (hw : True) : CSpec Try.prog 114 [.pointer (some ⟨p, 0, none⟩)] [blk p (inOk r s) 184] w (Turns (.tuple #[]) [blk p (inBad 16) 184]) := by
  refine spec_of Try.func114 rfl Try.ntmps114 rfl (l0 := [(0, .pointer (some ⟨p, 0, none⟩))]) rfl ?_
  intro fp
  repeat' first
    | ((with_reducible apply J.keepsW (ok_y _ _ _)); exact rfl; exact rfl; (repeat (first | (with_reducible exact Outs.nil) | ((with_reducible apply Outs.cons); (repeat (first | with_reducible exact Out.here | with_reducible apply Out.there))))))
    | ((with_reducible apply J.turnsP (fail_y _ _ _ 16)); exact rfl; exact rfl; (repeat (first | (with_reducible exact Outs.nil) | ((with_reducible apply Outs.cons); (repeat (first | with_reducible exact Out.here | with_reducible apply Out.there))))); (focus (trivial)); (try dsimp only [List.cons_append, List.nil_append]))
    | refine J.one ?_
    | refine J.loudS ?_
    | (refine J.loudQ ?_; intro _ _)
    | (refine J.loudB ?_; intro _)
    | (with_reducible apply J.list)
    | ((with_reducible apply J.gsplit); exact rfl; exact rfl)
    | ((with_reducible first | apply J.cond | apply JC.cond); exact rfl)
    | (intro h; exfalso; (first | (simp at h; done) | (simp at h; omega) | omega))
    | (intro h; (try simp only [decide_eq_true_eq, decide_eq_false_iff_not, beq_iff_eq, beq_eq_false_iff_ne, Bool.not_eq_true', Bool.not_eq_false', bne_iff_ne, bne_eq_false_iff_eq, ne_eq, ge_iff_le, gt_iff_lt] at h))
    | (with_reducible apply J.gave')
    | ((with_reducible apply J.kept'); rotate_left; (repeat (first | (with_reducible exact Outs.nil) | ((with_reducible apply Outs.cons); (repeat (first | with_reducible exact Out.here | with_reducible apply Out.there))))))
  all_goals (((with_reducible apply J.turned); exact rfl; (repeat (first | (with_reducible exact Outs.nil) | ((with_reducible apply Outs.cons); (repeat (first | with_reducible exact Out.here | with_reducible apply Out.there)))))))
theorem spoil_n (p : Nat) (e : Int) (he : e ≠ 0) (w : World) (hw : True) : CSpec Try.prog 114 [.pointer (some ⟨p, 0, none⟩)] [blk p (inBad e) 184] w (Turns (.tuple #[]) [blk p (inBad e) 184]) := by
  refine spec_of Try.func114 rfl Try.ntmps114 rfl (l0 := [(0, .pointer (some ⟨p, 0, none⟩))]) rfl ?_
  intro fp
  repeat' first
    | ((with_reducible apply J.keepsW (ok_n _ _ he)); exact rfl; exact rfl; (repeat (first | (with_reducible exact Outs.nil) | ((with_reducible apply Outs.cons); (repeat (first | with_reducible exact Out.here | with_reducible apply Out.there))))))
    | refine J.one ?_
    | refine J.loudS ?_
    | (refine J.loudQ ?_; intro _ _)
    | (refine J.loudB ?_; intro _)
    | (with_reducible apply J.list)
    | ((with_reducible apply J.gsplit); exact rfl; exact rfl)
    | ((with_reducible first | apply J.cond | apply JC.cond); exact rfl)
    | (intro h; exfalso; (first | (simp at h; done) | (simp at h; omega) | omega))
    | (intro h; (try simp only [decide_eq_true_eq, decide_eq_false_iff_not, beq_iff_eq, beq_eq_false_iff_ne, Bool.not_eq_true', Bool.not_eq_false', bne_iff_ne, bne_eq_false_iff_eq, ne_eq, ge_iff_le, gt_iff_lt] at h))
    | (with_reducible apply J.gave')
    | ((with_reducible apply J.kept'); rotate_left; (repeat (first | (with_reducible exact Outs.nil) | ((with_reducible apply Outs.cons); (repeat (first | with_reducible exact Out.here | with_reducible apply Out.there))))))
  all_goals (((with_reducible apply J.turned); exact rfl; (repeat (first | (with_reducible exact Outs.nil) | ((with_reducible apply Outs.cons); (repeat (first | with_reducible exact Out.here | with_reducible apply Out.there)))))))
theorem err_ (p : Nat) (z : Pz) (s : Option Addr × Nat) (w : World) : CSpec Try.prog 88 [.pointer (some ⟨p, 0, none⟩)] [blk p (inC z s) 184] w (Keeps (.int .i64 z.2) [blk p (inC z s) 184]) := by
  obtain ⟨r, e⟩ := z
  by_cases he : e = 0
  · subst he
    rw [inC_y]
    exact err_y p r s w
  · rw [inC_n he]
    exact err_n p e w
theorem spoil_ (p : Nat) (q : Option Addr × Nat) (L : List UInt8) (z : Pz) (s : Option Addr × Nat) (w : World) : CSpec Try.prog 114 [.pointer (some ⟨p, 0, none⟩)] [blk p (inC z s) 184] w (fun e H => e = .returned (.tuple #[]) ∧ H = [blk p (inC (pSpoil z) (none, 0)) 184]) := by
  obtain ⟨r, e⟩ := z
  by_cases he : e = 0
  · subst he
    rw [inC_y, show pSpoil (r, (0 : Int)) = ([], 16) from if_pos rfl, inC_n (by decide)]
    exact spoil_y p r s w trivial
  · rw [inC_n he, show pSpoil (r, e) = ([], e) from if_neg he, inC_n he]
    exact spoil_n p e he w trivial
end Go.Proofs.Ytfcaeifpclpnoaa.Fld2
