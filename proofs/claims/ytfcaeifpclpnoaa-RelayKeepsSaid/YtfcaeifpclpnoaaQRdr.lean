/-
  Fields that are read: asks, transfers, data. No conditions.
-/
import Derived.Test.YtfcaeifpclpnoaaQFld3
import Derived.Test.YtfcaeifpclpnoaaQCas
namespace Go.Proofs.Ytfcaeifpclpnoaa.Rdr
open Go Go.RowKit Eng
set_option linter.unusedVariables false
set_option maxRecDepth 100000
set_option linter.unusedSimpArgs false
open Sha Iter Hash Bytes Hsum Wide Tx Field Deal Msg Fld Fld2 Unw Fld3 Cas
set_option maxHeartbeats 1000000
theorem num_c (p : Nat) (q : Option Addr × Nat) (L : List UInt8) (m : Int) (z : Pz) (s : Option Addr × Nat) (z' : Pz) (v : Int) (h : pNum m z = (z', v)) (hok : OKs q L z s) (w : World) : CSpec Try.prog 82 [.pointer (some ⟨p, 0, none⟩), .int .i64 m] [blk p (inC z s) 184, row (.slice q.1 L.length q.2) 5 1 L.length (bcs L)] w (RdP p q L (.int .i64 v) z') := by
  have h2 := num_ p q L m z s hok w
  rw [h] at h2
  exact h2
theorem text_c (p : Nat) (q : Option Addr × Nat) (L : List UInt8) (m : Int) (z : Pz) (s : Option Addr × Nat) (z' : Pz) (v : List UInt8) (h : pText m z = (z', v)) (hok : OKs q L z s) (w : World) : CSpec Try.prog 85 [.pointer (some ⟨p, 0, none⟩), .int .i64 m] [blk p (inC z s) 184, row (.slice q.1 L.length q.2) 5 1 L.length (bcs L)] w (RdP p q L (str v) z') := by
  have h2 := text_r p q L m z s hok w
  rw [h] at h2
  exact h2
theorem wide_c (p : Nat) (q : Option Addr × Nat) (L : List UInt8) (z : Pz) (s : Option Addr × Nat) (z' : Pz) (v : Int) (h : pWide z = (z', v)) (hok : OKs q L z s) (w : World) : CSpec Try.prog 84 [.pointer (some ⟨p, 0, none⟩)] [blk p (inC z s) 184, row (.slice q.1 L.length q.2) 5 1 L.length (bcs L)] w (RdP p q L (.agg (wv v).toArray) z') := by
  have h2 := wide_r p q L z s hok w
  rw [h] at h2
  exact h2
theorem imin_le (a b : Int) : imin a b ≤ b := by unfold imin; split <;> omega
theorem pTake_len (n : Nat) (z : Pz) : (pTake n z).2.length ≤ n := by
  unfold pTake
  split
  · split
    · exact (List.length_take_le _ _)
    · exact Nat.zero_le _
  · exact Nat.zero_le _
theorem pTake_no (n : Nat) (z : Pz) : (pTake n z).1.2 ≠ 0 → (pTake n z).2 = [] := by
  unfold pTake
  split
  · split
    · intro h; exact absurd rfl h
    · intro _; rfl
  · intro _; rfl
theorem pNum_in {m : Int} {z z' : Pz} {v : Int} (h : pNum m z = (z', v)) : 0 ≤ v ∧ v ≤ 1099511627776 := by
  unfold pNum at h
  split at h
  · cases h; omega
  · rename_i h1
    cases h
    by_cases h2 : (pTake 6 z).1.2 = 0
    · have h3 : ¬ imin m 1099511627776 < (be (pTake 6 z).2 : Int) := fun h4 => h1 ⟨h2, h4⟩
      have := imin_le m 1099511627776
      omega
    · rw [pTake_no 6 z h2]
      exact ⟨by decide, by decide⟩
theorem pWide_wd {z z' : Pz} {v : Int} (h : pWide z = (z', v)) : Wd v := by
  unfold pWide at h
  cases h
  have h1 := be_lt (pTake 32 z).2
  have h2 : be (pTake 32 z).2 < 256 ^ 32 := Nat.lt_of_lt_of_le h1 (Nat.pow_le_pow_right (by decide) (pTake_len 32 z))
  unfold Wd
  omega
theorem pText_len {m : Int} {z z' : Pz} {v : List UInt8} (h : pText m z = (z', v)) : v.length ≤ maxLen := by
  have h9 : (65535 : Nat) ≤ maxLen := by unfold maxLen; omega
  unfold pText at h
  split at h
  · cases h; exact Nat.zero_le _
  · have h1 := pTake_len (be (pTake 2 z).2) (pTake 2 z).1
    rw [h] at h1
    have h2 := be_lt (pTake 2 z).2
    have h3 : be (pTake 2 z).2 < 256 ^ 2 := Nat.lt_of_lt_of_le h2 (Nat.pow_le_pow_right (by decide) (pTake_len 2 z))
    dsimp only at h1
    omega
theorem OKs.spoil (q : Option Addr × Nat) (L : List UInt8) (z : Pz) (s : Option Addr × Nat) : OKs q L (pSpoil z) s := by
  unfold pSpoil
  split
  · exact OKs.bad q L (by decide) s
  · rename_i h
    exact OKs.bad q L h s
section
variable {P : Program} {c : Cx} {l : TL} {H R : List Asrt} {Q : Exit → Act → World → Prop} {X : Act → World → Prop}
variable {ty : TypeId} {pos : String} {af : Array Edge} {d : Nat} {p : Nat} {z : Pz} {s : Option Addr × Nat}
theorem J.spo {f : Nat} [i : Eng.Enters P f] {xs : List Operand} {ts : Array TypeId} {vs : List Value} (hS : ∀ w, CSpec P f vs [blk p (inC z s) 184] w (fun e H => e = .returned (.tuple #[]) ∧ H = [blk p (inC (pSpoil z) (none, 0)) 184])) (hd : Nat.blt d c.n = true) (hx : evs l xs = some vs) (ho : Outs [blk p (inC z s) 184] H R)
    (K : J c ((d, .tuple #[]) :: l) (blk p (inC (pSpoil z) (none, 0)) 184 :: R) X) : J c l H (OW P Q ⟨some d, .call ⟨.value (.func f), xs.toArray, ts⟩, ty, pos, af, none⟩ X) :=
  J.callS hd hx ho (fun w s => hS w) (fun v' H3 ⟨h1, h2⟩ => by
    cases h1; subst h2
    exact K) (fun ch H3 ⟨h1, _⟩ => by cases h1) (fun H3 ⟨h1, _⟩ => by cases h1)
end
/-- An ask. -/
def pAsk (z : Pz) : Pz × Ak :=
  let a := pNum 1099511627776 z; let b := pNum 1099511627776 a.1; let c := pNum 1099511627776 b.1; let d := pNum 1099511627776 c.1; let e := pWide d.1; let i := pText 16 e.1
  if i.1.2 = 0 ∧ askE ⟨a.2, b.2, c.2, d.2, e.2, i.2⟩ = 0 then (i.1, ⟨a.2, b.2, c.2, d.2, e.2, i.2⟩) else (pSpoil i.1, ak0)
def ivE (i : Iv) : Int := invE i.us i.rt i.ro i.se i.re i.to i.id
def pInv (z : Pz) : Pz × Iv :=
  let a := pText 16 z; let b := pNum 1099511627776 a.1; let c := pText 8 b.1; let d := pNum 1099511627776 c.1; let e := pNum 1099511627776 d.1; let f := pNum 1099511627776 e.1; let g := pNum 1099511627776 f.1; let i := pText 16 g.1
  if i.1.2 = 0 ∧ a.2 = [105, 110, 118] ∧ ivE ⟨b.2, c.2, d.2, e.2, f.2, g.2, i.2⟩ = 0 then (i.1, ⟨b.2, c.2, d.2, e.2, f.2, g.2, i.2⟩) else (pSpoil i.1, iv0)
def pVar (z : Pz) : Pz × (Int × Int) :=
  let a := pWide z; let b := pNum 1099511627776 a.1
  if b.1.2 = 0 ∧ sndE a.2 b.2 = 0 then (b.1, (a.2, b.2)) else (pSpoil b.1, (0, 0))
section
variable {c : Cx} {l : TL} {H R : List Asrt} {Q : Exit → Act → World → Prop} {X : Act → World → Prop}
variable {ty : TypeId} {pos : String} {af : Array Edge} {d : Nat} {p : Nat} {q : Option Addr × Nat} {L : List UInt8} {z z' : Pz} {s : Option Addr × Nat}
theorem J.rd_num {xs : List Operand} {ts : Array TypeId} {m : Int} {v : Int} (hd : Nat.blt d c.n = true) (hx : evs l xs = some [.pointer (some ⟨p, 0, none⟩), .int .i64 m]) (ho : Outs [blk p (inC z s) 184, row (.slice q.1 L.length q.2) 5 1 L.length (bcs L)] H R) (h : pNum m z = (z', v)) (hok : OKs q L z s)
    (K : ∀ s', OKs q L z' s' → J c ((d, .int .i64 v) :: l) (blk p (inC z' s') 184 :: row (.slice q.1 L.length q.2) 5 1 L.length (bcs L) :: R) X) : J c l H (OW Try.prog Q ⟨some d, .call ⟨.value (.func 82), xs.toArray, ts⟩, ty, pos, af, none⟩ X) :=
  J.rdP (fun w => num_c p q L m z s z' v h hok w) hd hx ho K
theorem J.rd_text {xs : List Operand} {ts : Array TypeId} {m : Int} {v : List UInt8} (hd : Nat.blt d c.n = true) (hx : evs l xs = some [.pointer (some ⟨p, 0, none⟩), .int .i64 m]) (ho : Outs [blk p (inC z s) 184, row (.slice q.1 L.length q.2) 5 1 L.length (bcs L)] H R) (h : pText m z = (z', v)) (hok : OKs q L z s)
    (K : ∀ s', OKs q L z' s' → J c ((d, str v) :: l) (blk p (inC z' s') 184 :: row (.slice q.1 L.length q.2) 5 1 L.length (bcs L) :: R) X) : J c l H (OW Try.prog Q ⟨some d, .call ⟨.value (.func 85), xs.toArray, ts⟩, ty, pos, af, none⟩ X) :=
  J.rdP (fun w => text_c p q L m z s z' v h hok w) hd hx ho K
theorem J.rd_wide {xs : List Operand} {ts : Array TypeId} {v : Int} (hd : Nat.blt d c.n = true) (hx : evs l xs = some [.pointer (some ⟨p, 0, none⟩)]) (ho : Outs [blk p (inC z s) 184, row (.slice q.1 L.length q.2) 5 1 L.length (bcs L)] H R) (h : pWide z = (z', v)) (hok : OKs q L z s)
    (K : ∀ s', OKs q L z' s' → J c ((d, .agg (wv v).toArray) :: l) (blk p (inC z' s') 184 :: row (.slice q.1 L.length q.2) 5 1 L.length (bcs L) :: R) X) : J c l H (OW Try.prog Q ⟨some d, .call ⟨.value (.func 84), xs.toArray, ts⟩, ty, pos, af, none⟩ X) :=
  J.rdP (fun w => wide_c p q L z s z' v h hok w) hd hx ho K
end
theorem iv_ones (a : Iv) : a.cells.all (·.oneCell') = true := rfl
theorem vr_len (a b : Int) : (varc a b).length = 5 := rfl
theorem vr_ones (a b : Int) : (varc a b).all (·.oneCell') = true := rfl
theorem get_ask (p : Nat) (q : Option Addr × Nat) (L : List UInt8) (z : Pz) (s : Option Addr × Nat) (hok : OKs q L z s) (w : World) : CSpec Try.prog 83 [.pointer (some ⟨p, 0, none⟩)] [blk p (inC z s) 184, row (.slice q.1 L.length q.2) 5 1 L.length (bcs L)] w (RdP p q L (.agg (pAsk z).2.cells.toArray) (pAsk z).1) := by
  obtain ⟨z1, us, e1⟩ : ∃ a b, pNum 1099511627776 z = (a, b) := ⟨_, _, rfl⟩
  obtain ⟨z2, se, e2⟩ : ∃ a b, pNum 1099511627776 z1 = (a, b) := ⟨_, _, rfl⟩
  obtain ⟨z3, re, e3⟩ : ∃ a b, pNum 1099511627776 z2 = (a, b) := ⟨_, _, rfl⟩
  obtain ⟨z4, to, e4⟩ : ∃ a b, pNum 1099511627776 z3 = (a, b) := ⟨_, _, rfl⟩
  obtain ⟨z5, am, e5⟩ : ∃ a b, pWide z4 = (a, b) := ⟨_, _, rfl⟩
  obtain ⟨z6, id, e6⟩ : ∃ a b, pText 16 z5 = (a, b) := ⟨_, _, rfl⟩
  have n1 := pNum_in e1
  have n2 := pNum_in e2
  have n3 := pNum_in e3
  have n4 := pNum_in e4
  have ha : AkIn ⟨us, se, re, to, am, id⟩ := ⟨i64_of (by dsimp only; omega) (by dsimp only; omega), i64_of (by dsimp only; omega) (by dsimp only; omega), i64_of (by dsimp only; omega) (by dsimp only; omega), i64_of (by dsimp only; omega) (by dsimp only; omega), pWide_wd e5, pText_len e6⟩
  have hp : pAsk z = if z6.2 = 0 ∧ askE ⟨us, se, re, to, am, id⟩ = 0 then (z6, (⟨us, se, re, to, am, id⟩ : Ak)) else (pSpoil z6, ak0) := by
    unfold pAsk
    simp only [e1, e2, e3, e4, e5, e6]
  rw [hp]
  refine spec_of Try.func83 rfl Try.ntmps83 rfl (l0 := [(0, .pointer (some ⟨p, 0, none⟩))]) rfl ?_
  intro fp
  repeat' first
    | (refine J.qv ?_; (with_reducible apply exq); focus (first
      | ((with_reducible apply Qv.buildS (T := 39)); exact rfl; exact (show _ = some (Ak.cells (⟨us, se, re, to, am, id⟩ : Ak)) from rfl))
      | ((with_reducible apply Qv.buildS (T := 39)); exact rfl; exact (show _ = some (Ak.cells ak0) from rfl))))
    | (refine J.qr ?_; (with_reducible apply exq); focus (first
      | ((with_reducible apply Qr.loadFull); exact rfl; (focus ((repeat (first | with_reducible exact In.here | with_reducible apply In.there)); done)); (with_reducible first | exact ak_len _ | exact iv_len _ | exact vr_len _ _))))
    | ((with_reducible apply J.storeFull); exact rfl; exact rfl; (repeat (first | with_reducible exact Upd.here | with_reducible apply Upd.there)); (with_reducible first | exact ak_len _ | exact iv_len _ | exact vr_len _ _); (first | (with_reducible first | exact ak_len _ | exact iv_len _ | exact vr_len _ _) | kernel_rfl); (with_reducible first | exact ak_ones _ | exact iv_ones _ | exact vr_ones _ _))
    | ((with_reducible apply J.rd_num (q := q) (L := L)); exact rfl; exact rfl; (repeat (first | (with_reducible exact Outs.nil) | ((with_reducible apply Outs.cons); (repeat (first | with_reducible exact Out.here | with_reducible apply Out.there))))); (with_reducible assumption); (with_reducible assumption); intro _ _)
    | ((with_reducible apply J.rd_wide (q := q) (L := L)); exact rfl; exact rfl; (repeat (first | (with_reducible exact Outs.nil) | ((with_reducible apply Outs.cons); (repeat (first | with_reducible exact Out.here | with_reducible apply Out.there))))); (with_reducible assumption); (with_reducible assumption); intro _ _)
    | ((with_reducible apply J.rd_text (q := q) (L := L)); exact rfl; exact rfl; (repeat (first | (with_reducible exact Outs.nil) | ((with_reducible apply Outs.cons); (repeat (first | with_reducible exact Out.here | with_reducible apply Out.there))))); (with_reducible assumption); (with_reducible assumption); intro _ _)
    | ((with_reducible apply J.rd_text (q := q) (L := L)); exact rfl; exact rfl; (repeat (first | (with_reducible exact Outs.nil) | ((with_reducible apply Outs.cons); (repeat (first | with_reducible exact Out.here | with_reducible apply Out.there))))); (with_reducible assumption); (with_reducible assumption); intro _ _)
    | ((with_reducible apply J.keepsW (err_ _ _ _)); exact rfl; exact rfl; (repeat (first | (with_reducible exact Outs.nil) | ((with_reducible apply Outs.cons); (repeat (first | with_reducible exact Out.here | with_reducible apply Out.there))))))
    | ((with_reducible apply J.spo (fun w => spoil_ _ q L _ _ w)); exact rfl; exact rfl; (repeat (first | (with_reducible exact Outs.nil) | ((with_reducible apply Outs.cons); (repeat (first | with_reducible exact Out.here | with_reducible apply Out.there))))))
    | ((with_reducible apply J.givesR (check_ask _ ha)); exact rfl; exact rfl; focus (exact RH.true_))
    | refine J.one ?_
    | refine J.loudS ?_
    | (refine J.loudQ ?_; intro _ _)
    | (refine J.loudB ?_; intro _)
    | (with_reducible apply J.list)
    | ((with_reducible apply J.gsplit); exact rfl; exact rfl)
    | ((with_reducible first | apply J.cond | apply JC.cond); exact rfl)
    | (intro h; exfalso; (first | (simp at h; done) | (simp at h; omega) | omega))
    | (intro h; (try simp only [decide_eq_true_eq, decide_eq_false_iff_not, beq_iff_eq, beq_eq_false_iff_ne, Bool.not_eq_true', Bool.not_eq_false', bne_iff_ne, bne_eq_false_iff_eq, ne_eq, ge_iff_le, gt_iff_lt] at h))
    | (with_reducible apply J.gave')
    | ((with_reducible apply J.kept'); rotate_left; (repeat (first | (with_reducible exact Outs.nil) | ((with_reducible apply Outs.cons); (repeat (first | with_reducible exact Out.here | with_reducible apply Out.there))))))
  all_goals first
    | (rw [if_neg (by simp [*])]
       apply J.endRd (OKs.spoil q L _ _)
       · rfl
       · (repeat (first | (with_reducible exact Outs.nil) | ((with_reducible apply Outs.cons); (repeat (first | with_reducible exact Out.here | with_reducible apply Out.there))))))
    | (rw [if_pos (by simp [*])]
       apply J.endRd (by assumption)
       · rfl
       · (repeat (first | (with_reducible exact Outs.nil) | ((with_reducible apply Outs.cons); (repeat (first | with_reducible exact Out.here | with_reducible apply Out.there))))))
    | (trace_state; fail)
theorem get_inv (p : Nat) (q : Option Addr × Nat) (L : List UInt8) (z : Pz) (s : Option Addr × Nat) (hok : OKs q L z s) (w : World) : CSpec Try.prog 86 [.pointer (some ⟨p, 0, none⟩)] [blk p (inC z s) 184, row (.slice q.1 L.length q.2) 5 1 L.length (bcs L)] w (RdP p q L (.agg (pInv z).2.cells.toArray) (pInv z).1) := by
  obtain ⟨z1, word, e1⟩ : ∃ a b, pText 16 z = (a, b) := ⟨_, _, rfl⟩
  obtain ⟨z2, us, e2⟩ : ∃ a b, pNum 1099511627776 z1 = (a, b) := ⟨_, _, rfl⟩
  obtain ⟨z3, rt, e3⟩ : ∃ a b, pText 8 z2 = (a, b) := ⟨_, _, rfl⟩
  obtain ⟨z4, ro, e4⟩ : ∃ a b, pNum 1099511627776 z3 = (a, b) := ⟨_, _, rfl⟩
  obtain ⟨z5, se, e5⟩ : ∃ a b, pNum 1099511627776 z4 = (a, b) := ⟨_, _, rfl⟩
  obtain ⟨z6, re, e6⟩ : ∃ a b, pNum 1099511627776 z5 = (a, b) := ⟨_, _, rfl⟩
  obtain ⟨z7, to, e7⟩ : ∃ a b, pNum 1099511627776 z6 = (a, b) := ⟨_, _, rfl⟩
  obtain ⟨z8, id, e8⟩ : ∃ a b, pText 16 z7 = (a, b) := ⟨_, _, rfl⟩
  have hp : pInv z = if z8.2 = 0 ∧ word = [105, 110, 118] ∧ invE us rt ro se re to id = 0 then (z8, (⟨us, rt, ro, se, re, to, id⟩ : Iv)) else (pSpoil z8, iv0) := by
    unfold pInv ivE
    simp only [e1, e2, e3, e4, e5, e6, e7, e8]
  rw [hp]
  refine spec_of Try.func86 rfl Try.ntmps86 rfl (l0 := [(0, .pointer (some ⟨p, 0, none⟩))]) rfl ?_
  intro fp
  repeat' first
    | (refine J.qv ?_; (with_reducible apply exq); focus (first
      | ((with_reducible apply Qv.buildS (T := 43)); exact rfl; exact (show _ = some (Iv.cells (⟨us, rt, ro, se, re, to, id⟩ : Iv)) from rfl))
      | ((with_reducible apply Qv.buildS (T := 43)); exact rfl; exact (show _ = some (Iv.cells iv0) from rfl))))
    | (refine J.qr ?_; (with_reducible apply exq); focus (first
      | ((with_reducible apply Qr.loadFull); exact rfl; (focus ((repeat (first | with_reducible exact In.here | with_reducible apply In.there)); done)); (with_reducible first | exact ak_len _ | exact iv_len _ | exact vr_len _ _))))
    | ((with_reducible apply J.storeFull); exact rfl; exact rfl; (repeat (first | with_reducible exact Upd.here | with_reducible apply Upd.there)); (with_reducible first | exact ak_len _ | exact iv_len _ | exact vr_len _ _); (first | (with_reducible first | exact ak_len _ | exact iv_len _ | exact vr_len _ _) | kernel_rfl); (with_reducible first | exact ak_ones _ | exact iv_ones _ | exact vr_ones _ _))
    | ((with_reducible apply J.rd_num (q := q) (L := L)); exact rfl; exact rfl; (repeat (first | (with_reducible exact Outs.nil) | ((with_reducible apply Outs.cons); (repeat (first | with_reducible exact Out.here | with_reducible apply Out.there))))); (with_reducible assumption); (with_reducible assumption); intro _ _)
    | ((with_reducible apply J.rd_wide (q := q) (L := L)); exact rfl; exact rfl; (repeat (first | (with_reducible exact Outs.nil) | ((with_reducible apply Outs.cons); (repeat (first | with_reducible exact Out.here | with_reducible apply Out.there))))); (with_reducible assumption); (with_reducible assumption); intro _ _)
    | ((with_reducible apply J.rd_text (q := q) (L := L)); exact rfl; exact rfl; (repeat (first | (with_reducible exact Outs.nil) | ((with_reducible apply Outs.cons); (repeat (first | with_reducible exact Out.here | with_reducible apply Out.there))))); (with_reducible assumption); (with_reducible assumption); intro _ _)
    | ((with_reducible apply J.rd_text (q := q) (L := L)); exact rfl; exact rfl; (repeat (first | (with_reducible exact Outs.nil) | ((with_reducible apply Outs.cons); (repeat (first | with_reducible exact Out.here | with_reducible apply Out.there))))); (with_reducible assumption); (with_reducible assumption); intro _ _)
    | ((with_reducible apply J.keepsW (err_ _ _ _)); exact rfl; exact rfl; (repeat (first | (with_reducible exact Outs.nil) | ((with_reducible apply Outs.cons); (repeat (first | with_reducible exact Out.here | with_reducible apply Out.there))))))
    | ((with_reducible apply J.spo (fun w => spoil_ _ q L _ _ w)); exact rfl; exact rfl; (repeat (first | (with_reducible exact Outs.nil) | ((with_reducible apply Outs.cons); (repeat (first | with_reducible exact Out.here | with_reducible apply Out.there))))))
    | ((with_reducible apply J.givesW (dealCheck us rt ro se re to id)); exact rfl; exact rfl)
    | refine J.one ?_
    | refine J.loudS ?_
    | (refine J.loudQ ?_; intro _ _)
    | (refine J.loudB ?_; intro _)
    | (with_reducible apply J.list)
    | ((with_reducible apply J.gsplit); exact rfl; exact rfl)
    | ((with_reducible first | apply J.cond | apply JC.cond); exact rfl)
    | (intro h; exfalso; (first | (simp at h; done) | (simp at h; omega) | omega))
    | (intro h; (try simp only [decide_eq_true_eq, decide_eq_false_iff_not, beq_iff_eq, beq_eq_false_iff_ne, Bool.not_eq_true', Bool.not_eq_false', bne_iff_ne, bne_eq_false_iff_eq, ne_eq, ge_iff_le, gt_iff_lt] at h))
    | (with_reducible apply J.gave')
    | ((with_reducible apply J.kept'); rotate_left; (repeat (first | (with_reducible exact Outs.nil) | ((with_reducible apply Outs.cons); (repeat (first | with_reducible exact Out.here | with_reducible apply Out.there))))))
  all_goals first
    | (rw [if_neg (by simp [*])]
       apply J.endRd (OKs.spoil q L _ _)
       · rfl
       · (repeat (first | (with_reducible exact Outs.nil) | ((with_reducible apply Outs.cons); (repeat (first | with_reducible exact Out.here | with_reducible apply Out.there))))))
    | (rw [if_pos (by simp [*])]
       apply J.endRd (by assumption)
       · rfl
       · (repeat (first | (with_reducible exact Outs.nil) | ((with_reducible apply Outs.cons); (repeat (first | with_reducible exact Out.here | with_reducible apply Out.there))))))
    | (trace_state; fail)
theorem get_var (p : Nat) (q : Option Addr × Nat) (L : List UInt8) (z : Pz) (s : Option Addr × Nat) (hok : OKs q L z s) (w : World) : CSpec Try.prog 87 [.pointer (some ⟨p, 0, none⟩)] [blk p (inC z s) 184, row (.slice q.1 L.length q.2) 5 1 L.length (bcs L)] w (RdP p q L (.agg (varc (pVar z).2.1 (pVar z).2.2).toArray) (pVar z).1) := by
  obtain ⟨z1, va, e1⟩ : ∃ a b, pWide z = (a, b) := ⟨_, _, rfl⟩
  obtain ⟨z2, ex, e2⟩ : ∃ a b, pNum 1099511627776 z1 = (a, b) := ⟨_, _, rfl⟩
  have hv := pWide_wd e1
  have hp : pVar z = if z2.2 = 0 ∧ sndE va ex = 0 then (z2, (va, ex)) else (pSpoil z2, (0, 0)) := by
    unfold pVar
    simp only [e1, e2]
  rw [hp]
  refine spec_of Try.func87 rfl Try.ntmps87 rfl (l0 := [(0, .pointer (some ⟨p, 0, none⟩))]) rfl ?_
  intro fp
  repeat' first
    | (refine J.qv ?_; (with_reducible apply exq); focus (first
      | ((with_reducible apply Qv.buildS (T := 45)); exact rfl; exact (show _ = some (varc va ex) from rfl))
      | ((with_reducible apply Qv.buildS (T := 45)); exact rfl; exact (show _ = some (varc 0 0) from rfl))))
    | (refine J.qr ?_; (with_reducible apply exq); focus (first
      | ((with_reducible apply Qr.loadFull); exact rfl; (focus ((repeat (first | with_reducible exact In.here | with_reducible apply In.there)); done)); (with_reducible first | exact ak_len _ | exact iv_len _ | exact vr_len _ _))))
    | ((with_reducible apply J.storeFull); exact rfl; exact rfl; (repeat (first | with_reducible exact Upd.here | with_reducible apply Upd.there)); (with_reducible first | exact ak_len _ | exact iv_len _ | exact vr_len _ _); (first | (with_reducible first | exact ak_len _ | exact iv_len _ | exact vr_len _ _) | kernel_rfl); (with_reducible first | exact ak_ones _ | exact iv_ones _ | exact vr_ones _ _))
    | ((with_reducible apply J.rd_num (q := q) (L := L)); exact rfl; exact rfl; (repeat (first | (with_reducible exact Outs.nil) | ((with_reducible apply Outs.cons); (repeat (first | with_reducible exact Out.here | with_reducible apply Out.there))))); (with_reducible assumption); (with_reducible assumption); intro _ _)
    | ((with_reducible apply J.rd_wide (q := q) (L := L)); exact rfl; exact rfl; (repeat (first | (with_reducible exact Outs.nil) | ((with_reducible apply Outs.cons); (repeat (first | with_reducible exact Out.here | with_reducible apply Out.there))))); (with_reducible assumption); (with_reducible assumption); intro _ _)
    | ((with_reducible apply J.rd_text (q := q) (L := L)); exact rfl; exact rfl; (repeat (first | (with_reducible exact Outs.nil) | ((with_reducible apply Outs.cons); (repeat (first | with_reducible exact Out.here | with_reducible apply Out.there))))); (with_reducible assumption); (with_reducible assumption); intro _ _)
    | ((with_reducible apply J.rd_text (q := q) (L := L)); exact rfl; exact rfl; (repeat (first | (with_reducible exact Outs.nil) | ((with_reducible apply Outs.cons); (repeat (first | with_reducible exact Out.here | with_reducible apply Out.there))))); (with_reducible assumption); (with_reducible assumption); intro _ _)
    | ((with_reducible apply J.keepsW (err_ _ _ _)); exact rfl; exact rfl; (repeat (first | (with_reducible exact Outs.nil) | ((with_reducible apply Outs.cons); (repeat (first | with_reducible exact Out.here | with_reducible apply Out.there))))))
    | ((with_reducible apply J.spo (fun w => spoil_ _ q L _ _ w)); exact rfl; exact rfl; (repeat (first | (with_reducible exact Outs.nil) | ((with_reducible apply Outs.cons); (repeat (first | with_reducible exact Out.here | with_reducible apply Out.there))))))
    | ((with_reducible apply J.givesW (sound va ex hv)); exact rfl; exact rfl)
    | refine J.one ?_
    | refine J.loudS ?_
    | (refine J.loudQ ?_; intro _ _)
    | (refine J.loudB ?_; intro _)
    | (with_reducible apply J.list)
    | ((with_reducible apply J.gsplit); exact rfl; exact rfl)
    | ((with_reducible first | apply J.cond | apply JC.cond); exact rfl)
    | (intro h; exfalso; (first | (simp at h; done) | (simp at h; omega) | omega))
    | (intro h; (try simp only [decide_eq_true_eq, decide_eq_false_iff_not, beq_iff_eq, beq_eq_false_iff_ne, Bool.not_eq_true', Bool.not_eq_false', bne_iff_ne, bne_eq_false_iff_eq, ne_eq, ge_iff_le, gt_iff_lt] at h))
    | (with_reducible apply J.gave')
    | ((with_reducible apply J.kept'); rotate_left; (repeat (first | (with_reducible exact Outs.nil) | ((with_reducible apply Outs.cons); (repeat (first | with_reducible exact Out.here | with_reducible apply Out.there))))))
  all_goals first
    | (rw [if_neg (by simp [*])]
       apply J.endRd (OKs.spoil q L _ _)
       · rfl
       · (repeat (first | (with_reducible exact Outs.nil) | ((with_reducible apply Outs.cons); (repeat (first | with_reducible exact Out.here | with_reducible apply Out.there))))))
    | (rw [if_pos (by simp [*])]
       apply J.endRd (by assumption)
       · rfl
       · (repeat (first | (with_reducible exact Outs.nil) | ((with_reducible apply Outs.cons); (repeat (first | with_reducible exact Out.here | with_reducible apply Out.there))))))
    | (trace_state; fail)
end Go.Proofs.Ytfcaeifpclpnoaa.Rdr
