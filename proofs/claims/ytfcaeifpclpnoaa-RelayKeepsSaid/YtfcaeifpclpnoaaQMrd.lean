/-
  Messages that are read. No conditions.
-/
import Derived.Test.YtfcaeifpclpnoaaQMpt
namespace Go.Proofs.Ytfcaeifpclpnoaa.Mrd
open Go Go.RowKit Eng
set_option linter.unusedVariables false
set_option maxRecDepth 100000
set_option linter.unusedSimpArgs false
open Sha Iter Hash Bytes Hsum Wide Tx Field Deal Msg Fld Fld2 Unw Fld3 Cas Rdr Mch
set_option maxHeartbeats 3000000
theorem pAsk_in {z z' : Pz} {a : Ak} (h : pAsk z = (z', a)) : AkIn a := by
  have h1 : AkIn (pAsk z).2 := by
    unfold pAsk
    dsimp only
    split
    · have n := fun (m : Int) (z : Pz) => pNum_in (m := m) (z := z) (z' := (pNum m z).1) (v := (pNum m z).2) rfl
      have i := fun (m : Int) (z : Pz) => (i64_of (x := (pNum m z).2) (by have := n m z; omega) (by have := n m z; omega) : I64 (pNum m z).2)
      exact ⟨i _ _, i _ _, i _ _, i _ _, pWide_wd (z' := (pWide _).1) rfl, pText_len (z' := (pText _ _).1) rfl⟩
    · exact ak0_in
  rw [h] at h1
  exact h1
theorem pInv_in {z z' : Pz} {a : Iv} (h : pInv z = (z', a)) : IvIn a := by
  have h1 : IvIn (pInv z).2 := by
    unfold pInv
    dsimp only
    split
    · have n := fun (m : Int) (z : Pz) => pNum_in (m := m) (z := z) (z' := (pNum m z).1) (v := (pNum m z).2) rfl
      have i := fun (m : Int) (z : Pz) => (i64_of (x := (pNum m z).2) (by have := n m z; omega) (by have := n m z; omega) : I64 (pNum m z).2)
      exact ⟨i _ _, pText_len (z' := (pText _ _).1) rfl, i _ _, i _ _, i _ _, i _ _, pText_len (z' := (pText _ _).1) rfl⟩
    · exact iv0_in
  rw [h] at h1
  exact h1
theorem pVar_in {z z' : Pz} {va ex : Int} (h : pVar z = (z', (va, ex))) : Wd va ∧ I64 ex := by
  have h1 : Wd (pVar z).2.1 ∧ I64 (pVar z).2.2 := by
    unfold pVar
    dsimp only
    split
    · have n := pNum_in (m := 1099511627776) (z := (pWide z).1) (z' := (pNum 1099511627776 (pWide z).1).1) (v := (pNum 1099511627776 (pWide z).1).2) rfl
      exact ⟨pWide_wd (z' := (pWide z).1) rfl, i64_of (by dsimp only; omega) (by dsimp only; omega)⟩
    · exact ⟨wd_0, i64_0⟩
  rw [h] at h1
  exact h1
theorem i64_num {m : Int} {z z' : Pz} {v : Int} (h : pNum m z = (z', v)) : I64 v := by
  have := pNum_in h
  exact i64_of (by omega) (by omega)
/-- What a message's octets tell, by its kind. -/
def pBody (ki : Int) (z : Pz) : Pz × Mg :=
  if ki = 1 then (let a := pAsk z; (a.1, ⟨ki, a.2, bd0, iv0, 0, 0, 0, []⟩))
  else if ki = 2 then (let a := pNum 1099511627776 z; let b := pAsk a.1; let c := pWide b.1; let d := pNum 1099511627776 c.1; let e := pText 1024 d.1; (e.1, ⟨ki, ak0, ⟨a.2, b.2, c.2, d.2, e.2⟩, iv0, 0, 0, 0, []⟩))
  else if ki = 3 then (let a := pInv z; let b := pVar a.1; let c := pWide b.1; let d := pText 1024 c.1; (d.1, ⟨ki, ak0, bd0, a.2, b.2.1, b.2.2, c.2, d.2⟩))
  else (z, ⟨ki, ak0, bd0, iv0, 0, 0, 0, []⟩)
def pEnd (x : Pz × Mg) : Mg × Int := if x.1.2 = 0 then (if x.1.1.length = 0 ∧ mgE x.2 = 0 then (x.2, 0) else (mg0, 16)) else (mg0, x.1.2)
def pRead (l : List UInt8) : Mg × Int := pEnd (pBody (pNum 1099511627776 (pOpen l)).2 (pNum 1099511627776 (pOpen l)).1)
theorem pEnd_n {z : Pz} {m : Mg} (h : ¬ z.2 = 0) : pEnd (z, m) = (mg0, z.2) := if_neg h
theorem pEnd_y {z : Pz} {m : Mg} (h : z.2 = 0) (h2 : z.1.length = 0) (h3 : mgE m = 0) : pEnd (z, m) = (m, 0) := (if_pos h).trans (if_pos ⟨h2, h3⟩)
theorem pEnd_l {z : Pz} {m : Mg} (h : z.2 = 0) (h2 : ¬ z.1.length = 0) : pEnd (z, m) = (mg0, 16) := (if_pos h).trans (if_neg fun h4 => h2 h4.1)
theorem pEnd_m {z : Pz} {m : Mg} (h : z.2 = 0) (h3 : ¬ mgE m = 0) : pEnd (z, m) = (mg0, 16) := (if_pos h).trans (if_neg fun h4 => h3 h4.2)
def lefV (z : Pz) : Int := if z.2 = 0 then (z.1.length : Int) else 0
theorem lefV_y {z : Pz} (h : z.2 = 0) : lefV z = (z.1.length : Int) := if_pos h
theorem left_n (p : Nat) (e : Int) (w : World) : CSpec Try.prog 89 [.pointer (some ⟨p, 0, none⟩)] [blk p (inBad e) 184] w (Keeps (.int .i64 0) [blk p (inBad e) 184]) := by
  refine spec_of Try.func89 rfl Try.ntmps89 rfl (l0 := [(0, .pointer (some ⟨p, 0, none⟩))]) rfl ?_
  intro fp
  repeat' first
    | (refine J.qr ?_; (with_reducible apply exq); focus (first
      | ((with_reducible apply Qr.load1); exact rfl; (focus ((repeat (first | with_reducible exact In.here | with_reducible apply In.there)); done)); exact rfl)))
    | refine J.one ?_
    | refine J.loudS ?_
    | (refine J.loudQ ?_; intro _ _)
    | (refine J.loudB ?_; intro _)
    | (with_reducible apply J.list)
    | ((with_reducible apply J.gsplit); exact rfl; exact rfl)
    | ((with_reducible first | apply J.cond | apply JC.cond); exact rfl)
    | (intro h; exfalso; (simp at h; done))
    | (intro h; (try simp only [decide_eq_true_eq, decide_eq_false_iff_not, beq_iff_eq, beq_eq_false_iff_ne, Bool.not_eq_true', Bool.not_eq_false', bne_iff_ne, bne_eq_false_iff_eq, ne_eq, ge_iff_le, gt_iff_lt] at h))
    | (with_reducible apply J.gave')
    | ((with_reducible apply J.kept'); rotate_left; (repeat (first | (with_reducible exact Outs.nil) | ((with_reducible apply Outs.cons); (repeat (first | with_reducible exact Out.here | with_reducible apply Out.there))))))
  all_goals (rfl)
theorem left_ (p : Nat) (z : Pz) (s : Option Addr × Nat) (w : World) : CSpec Try.prog 89 [.pointer (some ⟨p, 0, none⟩)] [blk p (inC z s) 184] w (Keeps (.int .i64 (lefV z)) [blk p (inC z s) 184]) := by
  obtain ⟨r, e⟩ := z
  by_cases he : e = 0
  · subst he
    rw [inC_y, show lefV (r, (0 : Int)) = (r.length : Int) from if_pos rfl]
    exact left_y p r s w
  · rw [inC_n he, show lefV (r, e) = 0 from if_neg he]
    exact left_n p e w
section
variable {c : Cx} {l : TL} {H R : List Asrt} {Q : Exit → Act → World → Prop} {X : Act → World → Prop}
variable {ty : TypeId} {pos : String} {af : Array Edge} {d : Nat} {p : Nat} {q : Option Addr × Nat} {L : List UInt8} {z z' : Pz} {s : Option Addr × Nat}
theorem J.rd_ask {xs : List Operand} {ts : Array TypeId} {v : Ak} (hd : Nat.blt d c.n = true) (hx : evs l xs = some [.pointer (some ⟨p, 0, none⟩)]) (ho : Outs [blk p (inC z s) 184, row (.slice q.1 L.length q.2) 5 1 L.length (bcs L)] H R) (h : pAsk z = (z', v)) (hok : OKs q L z s)
    (K : ∀ s', OKs q L z' s' → J c ((d, .agg v.cells.toArray) :: l) (blk p (inC z' s') 184 :: row (.slice q.1 L.length q.2) 5 1 L.length (bcs L) :: R) X) : J c l H (OW Try.prog Q ⟨some d, .call ⟨.value (.func 83), xs.toArray, ts⟩, ty, pos, af, none⟩ X) :=
  J.rdP (fun w => by
    have h2 := get_ask p q L z s hok w
    rw [h] at h2
    exact h2) hd hx ho K
theorem J.rd_inv {xs : List Operand} {ts : Array TypeId} {v : Iv} (hd : Nat.blt d c.n = true) (hx : evs l xs = some [.pointer (some ⟨p, 0, none⟩)]) (ho : Outs [blk p (inC z s) 184, row (.slice q.1 L.length q.2) 5 1 L.length (bcs L)] H R) (h : pInv z = (z', v)) (hok : OKs q L z s)
    (K : ∀ s', OKs q L z' s' → J c ((d, .agg v.cells.toArray) :: l) (blk p (inC z' s') 184 :: row (.slice q.1 L.length q.2) 5 1 L.length (bcs L) :: R) X) : J c l H (OW Try.prog Q ⟨some d, .call ⟨.value (.func 86), xs.toArray, ts⟩, ty, pos, af, none⟩ X) :=
  J.rdP (fun w => by
    have h2 := get_inv p q L z s hok w
    rw [h] at h2
    exact h2) hd hx ho K
theorem J.rd_var {xs : List Operand} {ts : Array TypeId} {v : Int × Int} (hd : Nat.blt d c.n = true) (hx : evs l xs = some [.pointer (some ⟨p, 0, none⟩)]) (ho : Outs [blk p (inC z s) 184, row (.slice q.1 L.length q.2) 5 1 L.length (bcs L)] H R) (h : pVar z = (z', v)) (hok : OKs q L z s)
    (K : ∀ s', OKs q L z' s' → J c ((d, .agg (varc v.1 v.2).toArray) :: l) (blk p (inC z' s') 184 :: row (.slice q.1 L.length q.2) 5 1 L.length (bcs L) :: R) X) : J c l H (OW Try.prog Q ⟨some d, .call ⟨.value (.func 87), xs.toArray, ts⟩, ty, pos, af, none⟩ X) :=
  J.rdP (fun w => by
    have h2 := get_var p q L z s hok w
    rw [h] at h2
    exact h2) hd hx ho K
end
theorem ms_ki (m : Mg) (x : Int) : splice m.cells 0 [.int .i64 x] = Mg.cells ⟨x, m.ask, m.bid, m.inv, m.va, m.ex, m.fee, m.sg⟩ := rfl
theorem ms_ask (m : Mg) (x : Ak) : splice m.cells 1 x.cells = Mg.cells ⟨m.ki, x, m.bid, m.inv, m.va, m.ex, m.fee, m.sg⟩ := rfl
theorem ms_bid (m : Mg) (x : Bd) : splice m.cells 10 x.cells = Mg.cells ⟨m.ki, m.ask, x, m.inv, m.va, m.ex, m.fee, m.sg⟩ := rfl
theorem ms_inv (m : Mg) (x : Iv) : splice m.cells 26 x.cells = Mg.cells ⟨m.ki, m.ask, m.bid, x, m.va, m.ex, m.fee, m.sg⟩ := rfl
theorem ms_var (m : Mg) (x y : Int) : splice m.cells 33 (varc x y) = Mg.cells ⟨m.ki, m.ask, m.bid, m.inv, x, y, m.fee, m.sg⟩ := rfl
theorem ms_fee (m : Mg) (x : Int) : splice m.cells 38 (wv x) = Mg.cells ⟨m.ki, m.ask, m.bid, m.inv, m.va, m.ex, x, m.sg⟩ := rfl
theorem ms_sg (m : Mg) (x : List UInt8) : splice m.cells 42 [str x] = Mg.cells ⟨m.ki, m.ask, m.bid, m.inv, m.va, m.ex, m.fee, x⟩ := rfl
theorem tk43 (m : Mg) : List.take 43 m.cells = m.cells := rfl
theorem bd_ones (a : Bd) : a.cells.all (·.oneCell') = true := rfl
theorem chk_e (m : Mg) (hm : MgIn m) (cs : List Value) (e : m.cells = cs) (w : World) (hw : True) : CSpec Try.prog 44 [.agg cs.toArray] [] w (Gives (.int .i64 (mgE m))) := e ▸ check_mg m hm w hw
theorem read_1 (ao : Option Addr) (n cap : Nat) (l : List UInt8) (z1 : Pz) (ki : Int) (e1 : pNum 1099511627776 (pOpen l) = (z1, ki)) (hk : ki = 1) (w : World) (hw : Rd w ao (bcs l) ∧ n = l.length ∧ n ≤ cap) : CSpec Try.prog 53 [.slice ao n cap] [] w (Gives (.tuple #[.agg (pEnd (pBody ki z1)).1.cells.toArray, .int .i64 (pEnd (pBody ki z1)).2])) := by
  obtain ⟨hr, rfl, hc⟩ := hw
  obtain ⟨z2, ak, e2⟩ : ∃ a b, pAsk z1 = (a, b) := ⟨_, _, rfl⟩
  obtain ⟨m, em⟩ : ∃ m, m = (⟨ki, ak, bd0, iv0, 0, 0, 0, []⟩ : Mg) := ⟨_, rfl⟩
  have hm : MgIn m := em ▸ ⟨i64_num e1, pAsk_in e2, bd0_in, iv0_in, wd_0, i64_0, wd_0, Nat.zero_le _⟩
  have hb : pBody ki z1 = (z2, m) := by
    unfold pBody
    rw [if_pos hk]
    simp only [e2, em]
  rw [hb]
  refine spec_own0 Try.func53 rfl Try.ntmps53 rfl (l0 := [(0, .slice ao l.length cap)]) rfl ?_
  repeat' first
    | refine J.one ?_
    | refine J.loudS ?_
    | (refine J.loudQ ?_; intro _ _)
    | (refine J.loudB ?_; intro _)
    | (with_reducible apply J.list)
    | ((with_reducible apply J.gsplit); exact rfl; exact rfl)
    | ((with_reducible first | apply J.cond | apply JC.cond); exact rfl)
    | (intro h; exfalso; fail)
    | (intro h; (try simp only [decide_eq_true_eq, decide_eq_false_iff_not, beq_iff_eq, beq_eq_false_iff_ne, Bool.not_eq_true', Bool.not_eq_false', bne_iff_ne, bne_eq_false_iff_eq, ne_eq, ge_iff_le, gt_iff_lt] at h))
    | (with_reducible apply J.gave')
    | ((with_reducible apply J.kept'); rotate_left; (repeat (first | (with_reducible exact Outs.nil) | ((with_reducible apply Outs.cons); (repeat (first | with_reducible exact Out.here | with_reducible apply Out.there))))))
  rename_i b2
  apply J.reB (b := b2) (C' := mg0.cells)
  · (repeat (first | with_reducible exact Upd.here | with_reducible apply Upd.there))
  · rfl
  have key : Mg.cells m = Mg.cells ⟨ki, ak, bd0, iv0, 0, 0, 0, []⟩ := congrArg Mg.cells em
  repeat' first
    | (refine J.qv ?_; (with_reducible apply exq); focus (first
      | ((with_reducible apply Qv.buildS (T := 47)); exact rfl; exact (show _ = some (mg0.cells) from rfl))))
    | (refine J.qr ?_; (with_reducible apply exq); focus (first
      | ((with_reducible apply Qr.load1); exact rfl; (focus ((repeat (first | with_reducible exact In.here | with_reducible apply In.there)); done)); with_reducible exact mg_ki _)
      | ((with_reducible apply Qr.loadFull); exact rfl; (focus ((repeat (first | with_reducible exact In.here | with_reducible apply In.there)); done)); with_reducible exact mg_len _)))
    | ((with_reducible apply J.store1); exact rfl; exact rfl; exact rfl; (repeat (first | with_reducible exact Upd.here | with_reducible apply Upd.there)); (with_reducible exact ms_ki _ _); (rw [mg_len]; decide))
    | ((with_reducible apply J.store1); exact rfl; exact rfl; exact rfl; (repeat (first | with_reducible exact Upd.here | with_reducible apply Upd.there)); (with_reducible exact ms_sg _ _); (rw [mg_len]; decide))
    | ((with_reducible apply J.storeN); exact rfl; exact rfl; (repeat (first | with_reducible exact Upd.here | with_reducible apply Upd.there)); (with_reducible exact ms_ask _ _); (with_reducible exact ak_len _); (rw [mg_len]; decide); with_reducible exact ak_ones _)
    | ((with_reducible apply J.storeN); exact rfl; exact rfl; (repeat (first | with_reducible exact Upd.here | with_reducible apply Upd.there)); (with_reducible exact ms_bid _ _); (with_reducible exact bd_len _); (rw [mg_len]; decide); with_reducible exact bd_ones _)
    | ((with_reducible apply J.storeN); exact rfl; exact rfl; (repeat (first | with_reducible exact Upd.here | with_reducible apply Upd.there)); (with_reducible exact ms_inv _ _); (with_reducible exact iv_len _); (rw [mg_len]; decide); with_reducible exact iv_ones _)
    | ((with_reducible apply J.storeN); exact rfl; exact rfl; (repeat (first | with_reducible exact Upd.here | with_reducible apply Upd.there)); (with_reducible exact ms_var _ _ _); (with_reducible exact vr_len _ _); (rw [mg_len]; decide); with_reducible exact vr_ones _ _)
    | ((with_reducible apply J.storeN); exact rfl; exact rfl; (repeat (first | with_reducible exact Upd.here | with_reducible apply Upd.there)); (with_reducible exact ms_fee _ _); (with_reducible exact wv_length _); (rw [mg_len]; decide); with_reducible exact wv_ones _)
    | ((with_reducible apply J.storeFull); exact rfl; exact rfl; (repeat (first | with_reducible exact Upd.here | with_reducible apply Upd.there)); (with_reducible exact mg_len _); (with_reducible exact mg_len _); with_reducible exact mg_ones _)
    | ((with_reducible apply J.opR (open_ _ _ _ l)); exact rfl; exact rfl; (exact RH.and (RH.old hr) (RH.of ⟨rfl, hc⟩)); intro p8 q8 s8 hk8)
    | ((with_reducible apply J.rd_num (q := q8) (L := pL l)); exact rfl; exact rfl; (repeat (first | (with_reducible exact Outs.nil) | ((with_reducible apply Outs.cons); (repeat (first | with_reducible exact Out.here | with_reducible apply Out.there))))); (with_reducible assumption); (with_reducible assumption); intro _ _)
    | ((with_reducible apply J.rd_ask (q := q8) (L := pL l)); exact rfl; exact rfl; (repeat (first | (with_reducible exact Outs.nil) | ((with_reducible apply Outs.cons); (repeat (first | with_reducible exact Out.here | with_reducible apply Out.there))))); (with_reducible assumption); (with_reducible assumption); intro _ _)
    | ((with_reducible apply J.rd_inv (q := q8) (L := pL l)); exact rfl; exact rfl; (repeat (first | (with_reducible exact Outs.nil) | ((with_reducible apply Outs.cons); (repeat (first | with_reducible exact Out.here | with_reducible apply Out.there))))); (with_reducible assumption); (with_reducible assumption); intro _ _)
    | ((with_reducible apply J.rd_var (q := q8) (L := pL l)); exact rfl; exact rfl; (repeat (first | (with_reducible exact Outs.nil) | ((with_reducible apply Outs.cons); (repeat (first | with_reducible exact Out.here | with_reducible apply Out.there))))); (with_reducible assumption); (with_reducible assumption); intro _ _)
    | ((with_reducible apply J.rd_wide (q := q8) (L := pL l)); exact rfl; exact rfl; (repeat (first | (with_reducible exact Outs.nil) | ((with_reducible apply Outs.cons); (repeat (first | with_reducible exact Out.here | with_reducible apply Out.there))))); (with_reducible assumption); (with_reducible assumption); intro _ _)
    | ((with_reducible apply J.rd_text (q := q8) (L := pL l)); exact rfl; exact rfl; (repeat (first | (with_reducible exact Outs.nil) | ((with_reducible apply Outs.cons); (repeat (first | with_reducible exact Out.here | with_reducible apply Out.there))))); (with_reducible assumption); (with_reducible assumption); intro _ _)
    | ((with_reducible apply J.keepsW (err_ _ _ _)); exact rfl; exact rfl; (repeat (first | (with_reducible exact Outs.nil) | ((with_reducible apply Outs.cons); (repeat (first | with_reducible exact Out.here | with_reducible apply Out.there))))))
    | ((with_reducible apply J.keepsW (left_ _ _ _)); exact rfl; exact rfl; (repeat (first | (with_reducible exact Outs.nil) | ((with_reducible apply Outs.cons); (repeat (first | with_reducible exact Out.here | with_reducible apply Out.there))))))
    | ((with_reducible apply J.givesR (chk_e m hm _ key)); exact rfl; exact rfl; focus (exact RH.true_))
    | refine J.one ?_
    | refine J.loudS ?_
    | (refine J.loudQ ?_; intro _ _)
    | (refine J.loudB ?_; intro _)
    | (with_reducible apply J.list)
    | ((with_reducible apply J.gsplit); exact rfl; exact rfl)
    | ((with_reducible first | apply J.cond | apply JC.cond); exact rfl)
    | (intro h; exfalso; (first | (simp at h; done) | (simp at h; omega) | omega))
    | (intro h; (try simp only [decide_eq_true_eq, decide_eq_false_iff_not, beq_iff_eq, beq_eq_false_iff_ne, Bool.not_eq_true', Bool.not_eq_false', bne_iff_ne, bne_eq_false_iff_eq, ne_eq, ge_iff_le, gt_iff_lt] at h))
    | (with_reducible apply J.gave')
    | ((with_reducible apply J.kept'); rotate_left; (repeat (first | (with_reducible exact Outs.nil) | ((with_reducible apply Outs.cons); (repeat (first | with_reducible exact Out.here | with_reducible apply Out.there))))))
  all_goals first
    | (simp only [retv, tk43]; rw [pEnd_n (by assumption)]; done)
    | (simp only [retv, tk43]; rw [pEnd_l (by assumption) (by have h9 := lefV_y (by assumption : (z2).2 = 0); omega)]; done)
    | (simp only [retv, tk43]; rw [pEnd_m (by assumption) (by assumption)]; done)
    | (have h7 : (z2).2 = 0 := by assumption
       have h9 := lefV_y h7
       simp only [retv, tk43]
       rw [pEnd_y h7 (by omega) (by assumption), h7]
       exact congrArg (fun x : List Value => Value.tuple #[.agg x.toArray, .int .i64 0]) key.symm)
    | (trace_state; fail)
theorem read_2 (ao : Option Addr) (n cap : Nat) (l : List UInt8) (z1 : Pz) (ki : Int) (e1 : pNum 1099511627776 (pOpen l) = (z1, ki)) (hk : ki = 2) (w : World) (hw : Rd w ao (bcs l) ∧ n = l.length ∧ n ≤ cap) : CSpec Try.prog 53 [.slice ao n cap] [] w (Gives (.tuple #[.agg (pEnd (pBody ki z1)).1.cells.toArray, .int .i64 (pEnd (pBody ki z1)).2])) := by
  obtain ⟨hr, rfl, hc⟩ := hw
  obtain ⟨z2, ro, e2⟩ : ∃ a b, pNum 1099511627776 z1 = (a, b) := ⟨_, _, rfl⟩
  obtain ⟨z3, ak, e3⟩ : ∃ a b, pAsk z2 = (a, b) := ⟨_, _, rfl⟩
  obtain ⟨z4, am, e4⟩ : ∃ a b, pWide z3 = (a, b) := ⟨_, _, rfl⟩
  obtain ⟨z5, un, e5⟩ : ∃ a b, pNum 1099511627776 z4 = (a, b) := ⟨_, _, rfl⟩
  obtain ⟨z6, sg, e6⟩ : ∃ a b, pText 1024 z5 = (a, b) := ⟨_, _, rfl⟩
  obtain ⟨m, em⟩ : ∃ m, m = (⟨ki, ak0, ⟨ro, ak, am, un, sg⟩, iv0, 0, 0, 0, []⟩ : Mg) := ⟨_, rfl⟩
  have hm : MgIn m := em ▸ ⟨i64_num e1, ak0_in, ⟨i64_num e2, pAsk_in e3, pWide_wd e4, i64_num e5, pText_len e6⟩, iv0_in, wd_0, i64_0, wd_0, Nat.zero_le _⟩
  have hb : pBody ki z1 = (z6, m) := by
    unfold pBody
    rw [if_neg (by omega), if_pos hk]
    simp only [e2, e3, e4, e5, e6, em]
  rw [hb]
  refine spec_own0 Try.func53 rfl Try.ntmps53 rfl (l0 := [(0, .slice ao l.length cap)]) rfl ?_
  repeat' first
    | refine J.one ?_
    | refine J.loudS ?_
    | (refine J.loudQ ?_; intro _ _)
    | (refine J.loudB ?_; intro _)
    | (with_reducible apply J.list)
    | ((with_reducible apply J.gsplit); exact rfl; exact rfl)
    | ((with_reducible first | apply J.cond | apply JC.cond); exact rfl)
    | (intro h; exfalso; fail)
    | (intro h; (try simp only [decide_eq_true_eq, decide_eq_false_iff_not, beq_iff_eq, beq_eq_false_iff_ne, Bool.not_eq_true', Bool.not_eq_false', bne_iff_ne, bne_eq_false_iff_eq, ne_eq, ge_iff_le, gt_iff_lt] at h))
    | (with_reducible apply J.gave')
    | ((with_reducible apply J.kept'); rotate_left; (repeat (first | (with_reducible exact Outs.nil) | ((with_reducible apply Outs.cons); (repeat (first | with_reducible exact Out.here | with_reducible apply Out.there))))))
  rename_i b2
  apply J.reB (b := b2) (C' := mg0.cells)
  · (repeat (first | with_reducible exact Upd.here | with_reducible apply Upd.there))
  · rfl
  have key : Mg.cells m = Mg.cells ⟨ki, ak0, ⟨ro, ak, am, un, sg⟩, iv0, 0, 0, 0, []⟩ := congrArg Mg.cells em
  repeat' first
    | (refine J.qv ?_; (with_reducible apply exq); focus (first
      | ((with_reducible apply Qv.buildS (T := 41)); exact rfl; exact (show _ = some (Bd.cells ⟨ro, ak, am, un, sg⟩) from rfl))
      | ((with_reducible apply Qv.buildS (T := 47)); exact rfl; exact (show _ = some (mg0.cells) from rfl))))
    | (refine J.qr ?_; (with_reducible apply exq); focus (first
      | ((with_reducible apply Qr.load1); exact rfl; (focus ((repeat (first | with_reducible exact In.here | with_reducible apply In.there)); done)); with_reducible exact mg_ki _)
      | ((with_reducible apply Qr.loadFull); exact rfl; (focus ((repeat (first | with_reducible exact In.here | with_reducible apply In.there)); done)); with_reducible exact mg_len _)))
    | ((with_reducible apply J.store1); exact rfl; exact rfl; exact rfl; (repeat (first | with_reducible exact Upd.here | with_reducible apply Upd.there)); (with_reducible exact ms_ki _ _); (rw [mg_len]; decide))
    | ((with_reducible apply J.store1); exact rfl; exact rfl; exact rfl; (repeat (first | with_reducible exact Upd.here | with_reducible apply Upd.there)); (with_reducible exact ms_sg _ _); (rw [mg_len]; decide))
    | ((with_reducible apply J.storeN); exact rfl; exact rfl; (repeat (first | with_reducible exact Upd.here | with_reducible apply Upd.there)); (with_reducible exact ms_ask _ _); (with_reducible exact ak_len _); (rw [mg_len]; decide); with_reducible exact ak_ones _)
    | ((with_reducible apply J.storeN); exact rfl; exact rfl; (repeat (first | with_reducible exact Upd.here | with_reducible apply Upd.there)); (with_reducible exact ms_bid _ _); (with_reducible exact bd_len _); (rw [mg_len]; decide); with_reducible exact bd_ones _)
    | ((with_reducible apply J.storeN); exact rfl; exact rfl; (repeat (first | with_reducible exact Upd.here | with_reducible apply Upd.there)); (with_reducible exact ms_inv _ _); (with_reducible exact iv_len _); (rw [mg_len]; decide); with_reducible exact iv_ones _)
    | ((with_reducible apply J.storeN); exact rfl; exact rfl; (repeat (first | with_reducible exact Upd.here | with_reducible apply Upd.there)); (with_reducible exact ms_var _ _ _); (with_reducible exact vr_len _ _); (rw [mg_len]; decide); with_reducible exact vr_ones _ _)
    | ((with_reducible apply J.storeN); exact rfl; exact rfl; (repeat (first | with_reducible exact Upd.here | with_reducible apply Upd.there)); (with_reducible exact ms_fee _ _); (with_reducible exact wv_length _); (rw [mg_len]; decide); with_reducible exact wv_ones _)
    | ((with_reducible apply J.storeFull); exact rfl; exact rfl; (repeat (first | with_reducible exact Upd.here | with_reducible apply Upd.there)); (with_reducible exact mg_len _); (with_reducible exact mg_len _); with_reducible exact mg_ones _)
    | ((with_reducible apply J.opR (open_ _ _ _ l)); exact rfl; exact rfl; (exact RH.and (RH.old hr) (RH.of ⟨rfl, hc⟩)); intro p8 q8 s8 hk8)
    | ((with_reducible apply J.rd_num (q := q8) (L := pL l)); exact rfl; exact rfl; (repeat (first | (with_reducible exact Outs.nil) | ((with_reducible apply Outs.cons); (repeat (first | with_reducible exact Out.here | with_reducible apply Out.there))))); (with_reducible assumption); (with_reducible assumption); intro _ _)
    | ((with_reducible apply J.rd_ask (q := q8) (L := pL l)); exact rfl; exact rfl; (repeat (first | (with_reducible exact Outs.nil) | ((with_reducible apply Outs.cons); (repeat (first | with_reducible exact Out.here | with_reducible apply Out.there))))); (with_reducible assumption); (with_reducible assumption); intro _ _)
    | ((with_reducible apply J.rd_inv (q := q8) (L := pL l)); exact rfl; exact rfl; (repeat (first | (with_reducible exact Outs.nil) | ((with_reducible apply Outs.cons); (repeat (first | with_reducible exact Out.here | with_reducible apply Out.there))))); (with_reducible assumption); (with_reducible assumption); intro _ _)
    | ((with_reducible apply J.rd_var (q := q8) (L := pL l)); exact rfl; exact rfl; (repeat (first | (with_reducible exact Outs.nil) | ((with_reducible apply Outs.cons); (repeat (first | with_reducible exact Out.here | with_reducible apply Out.there))))); (with_reducible assumption); (with_reducible assumption); intro _ _)
    | ((with_reducible apply J.rd_wide (q := q8) (L := pL l)); exact rfl; exact rfl; (repeat (first | (with_reducible exact Outs.nil) | ((with_reducible apply Outs.cons); (repeat (first | with_reducible exact Out.here | with_reducible apply Out.there))))); (with_reducible assumption); (with_reducible assumption); intro _ _)
    | ((with_reducible apply J.rd_text (q := q8) (L := pL l)); exact rfl; exact rfl; (repeat (first | (with_reducible exact Outs.nil) | ((with_reducible apply Outs.cons); (repeat (first | with_reducible exact Out.here | with_reducible apply Out.there))))); (with_reducible assumption); (with_reducible assumption); intro _ _)
    | ((with_reducible apply J.keepsW (err_ _ _ _)); exact rfl; exact rfl; (repeat (first | (with_reducible exact Outs.nil) | ((with_reducible apply Outs.cons); (repeat (first | with_reducible exact Out.here | with_reducible apply Out.there))))))
    | ((with_reducible apply J.keepsW (left_ _ _ _)); exact rfl; exact rfl; (repeat (first | (with_reducible exact Outs.nil) | ((with_reducible apply Outs.cons); (repeat (first | with_reducible exact Out.here | with_reducible apply Out.there))))))
    | ((with_reducible apply J.givesR (chk_e m hm _ key)); exact rfl; exact rfl; focus (exact RH.true_))
    | refine J.one ?_
    | refine J.loudS ?_
    | (refine J.loudQ ?_; intro _ _)
    | (refine J.loudB ?_; intro _)
    | (with_reducible apply J.list)
    | ((with_reducible apply J.gsplit); exact rfl; exact rfl)
    | ((with_reducible first | apply J.cond | apply JC.cond); exact rfl)
    | (intro h; exfalso; (first | (simp at h; done) | (simp at h; omega) | omega))
    | (intro h; (try simp only [decide_eq_true_eq, decide_eq_false_iff_not, beq_iff_eq, beq_eq_false_iff_ne, Bool.not_eq_true', Bool.not_eq_false', bne_iff_ne, bne_eq_false_iff_eq, ne_eq, ge_iff_le, gt_iff_lt] at h))
    | (with_reducible apply J.gave')
    | ((with_reducible apply J.kept'); rotate_left; (repeat (first | (with_reducible exact Outs.nil) | ((with_reducible apply Outs.cons); (repeat (first | with_reducible exact Out.here | with_reducible apply Out.there))))))
  all_goals first
    | (simp only [retv, tk43]; rw [pEnd_n (by assumption)]; done)
    | (simp only [retv, tk43]; rw [pEnd_l (by assumption) (by have h9 := lefV_y (by assumption : (z6).2 = 0); omega)]; done)
    | (simp only [retv, tk43]; rw [pEnd_m (by assumption) (by assumption)]; done)
    | (have h7 : (z6).2 = 0 := by assumption
       have h9 := lefV_y h7
       simp only [retv, tk43]
       rw [pEnd_y h7 (by omega) (by assumption), h7]
       exact congrArg (fun x : List Value => Value.tuple #[.agg x.toArray, .int .i64 0]) key.symm)
    | (trace_state; fail)
theorem read_3 (ao : Option Addr) (n cap : Nat) (l : List UInt8) (z1 : Pz) (ki : Int) (e1 : pNum 1099511627776 (pOpen l) = (z1, ki)) (hk : ki = 3) (w : World) (hw : Rd w ao (bcs l) ∧ n = l.length ∧ n ≤ cap) : CSpec Try.prog 53 [.slice ao n cap] [] w (Gives (.tuple #[.agg (pEnd (pBody ki z1)).1.cells.toArray, .int .i64 (pEnd (pBody ki z1)).2])) := by
  obtain ⟨hr, rfl, hc⟩ := hw
  obtain ⟨z2, iv, e2⟩ : ∃ a b, pInv z1 = (a, b) := ⟨_, _, rfl⟩
  obtain ⟨z3, ve, e3⟩ : ∃ a b, pVar z2 = (a, b) := ⟨_, _, rfl⟩
  obtain ⟨z4, fee, e4⟩ : ∃ a b, pWide z3 = (a, b) := ⟨_, _, rfl⟩
  obtain ⟨z5, sg, e5⟩ : ∃ a b, pText 1024 z4 = (a, b) := ⟨_, _, rfl⟩
  obtain ⟨m, em⟩ : ∃ m, m = (⟨ki, ak0, bd0, iv, ve.1, ve.2, fee, sg⟩ : Mg) := ⟨_, rfl⟩
  have hm : MgIn m := em ▸ ⟨i64_num e1, ak0_in, bd0_in, pInv_in e2, (pVar_in (va := ve.1) (ex := ve.2) e3).1, (pVar_in (va := ve.1) (ex := ve.2) e3).2, pWide_wd e4, pText_len e5⟩
  have hb : pBody ki z1 = (z5, m) := by
    unfold pBody
    rw [if_neg (by omega), if_neg (by omega), if_pos hk]
    simp only [e2, e3, e4, e5, em]
  rw [hb]
  refine spec_own0 Try.func53 rfl Try.ntmps53 rfl (l0 := [(0, .slice ao l.length cap)]) rfl ?_
  repeat' first
    | refine J.one ?_
    | refine J.loudS ?_
    | (refine J.loudQ ?_; intro _ _)
    | (refine J.loudB ?_; intro _)
    | (with_reducible apply J.list)
    | ((with_reducible apply J.gsplit); exact rfl; exact rfl)
    | ((with_reducible first | apply J.cond | apply JC.cond); exact rfl)
    | (intro h; exfalso; fail)
    | (intro h; (try simp only [decide_eq_true_eq, decide_eq_false_iff_not, beq_iff_eq, beq_eq_false_iff_ne, Bool.not_eq_true', Bool.not_eq_false', bne_iff_ne, bne_eq_false_iff_eq, ne_eq, ge_iff_le, gt_iff_lt] at h))
    | (with_reducible apply J.gave')
    | ((with_reducible apply J.kept'); rotate_left; (repeat (first | (with_reducible exact Outs.nil) | ((with_reducible apply Outs.cons); (repeat (first | with_reducible exact Out.here | with_reducible apply Out.there))))))
  rename_i b2
  apply J.reB (b := b2) (C' := mg0.cells)
  · (repeat (first | with_reducible exact Upd.here | with_reducible apply Upd.there))
  · rfl
  have key : Mg.cells m = Mg.cells ⟨ki, ak0, bd0, iv, ve.1, ve.2, fee, sg⟩ := congrArg Mg.cells em
  repeat' first
    | (refine J.qv ?_; (with_reducible apply exq); focus (first
      | ((with_reducible apply Qv.buildS (T := 47)); exact rfl; exact (show _ = some (mg0.cells) from rfl))))
    | (refine J.qr ?_; (with_reducible apply exq); focus (first
      | ((with_reducible apply Qr.load1); exact rfl; (focus ((repeat (first | with_reducible exact In.here | with_reducible apply In.there)); done)); with_reducible exact mg_ki _)
      | ((with_reducible apply Qr.loadFull); exact rfl; (focus ((repeat (first | with_reducible exact In.here | with_reducible apply In.there)); done)); with_reducible exact mg_len _)))
    | ((with_reducible apply J.store1); exact rfl; exact rfl; exact rfl; (repeat (first | with_reducible exact Upd.here | with_reducible apply Upd.there)); (with_reducible exact ms_ki _ _); (rw [mg_len]; decide))
    | ((with_reducible apply J.store1); exact rfl; exact rfl; exact rfl; (repeat (first | with_reducible exact Upd.here | with_reducible apply Upd.there)); (with_reducible exact ms_sg _ _); (rw [mg_len]; decide))
    | ((with_reducible apply J.storeN); exact rfl; exact rfl; (repeat (first | with_reducible exact Upd.here | with_reducible apply Upd.there)); (with_reducible exact ms_ask _ _); (with_reducible exact ak_len _); (rw [mg_len]; decide); with_reducible exact ak_ones _)
    | ((with_reducible apply J.storeN); exact rfl; exact rfl; (repeat (first | with_reducible exact Upd.here | with_reducible apply Upd.there)); (with_reducible exact ms_bid _ _); (with_reducible exact bd_len _); (rw [mg_len]; decide); with_reducible exact bd_ones _)
    | ((with_reducible apply J.storeN); exact rfl; exact rfl; (repeat (first | with_reducible exact Upd.here | with_reducible apply Upd.there)); (with_reducible exact ms_inv _ _); (with_reducible exact iv_len _); (rw [mg_len]; decide); with_reducible exact iv_ones _)
    | ((with_reducible apply J.storeN); exact rfl; exact rfl; (repeat (first | with_reducible exact Upd.here | with_reducible apply Upd.there)); (with_reducible exact ms_var _ _ _); (with_reducible exact vr_len _ _); (rw [mg_len]; decide); with_reducible exact vr_ones _ _)
    | ((with_reducible apply J.storeN); exact rfl; exact rfl; (repeat (first | with_reducible exact Upd.here | with_reducible apply Upd.there)); (with_reducible exact ms_fee _ _); (with_reducible exact wv_length _); (rw [mg_len]; decide); with_reducible exact wv_ones _)
    | ((with_reducible apply J.storeFull); exact rfl; exact rfl; (repeat (first | with_reducible exact Upd.here | with_reducible apply Upd.there)); (with_reducible exact mg_len _); (with_reducible exact mg_len _); with_reducible exact mg_ones _)
    | ((with_reducible apply J.opR (open_ _ _ _ l)); exact rfl; exact rfl; (exact RH.and (RH.old hr) (RH.of ⟨rfl, hc⟩)); intro p8 q8 s8 hk8)
    | ((with_reducible apply J.rd_num (q := q8) (L := pL l)); exact rfl; exact rfl; (repeat (first | (with_reducible exact Outs.nil) | ((with_reducible apply Outs.cons); (repeat (first | with_reducible exact Out.here | with_reducible apply Out.there))))); (with_reducible assumption); (with_reducible assumption); intro _ _)
    | ((with_reducible apply J.rd_ask (q := q8) (L := pL l)); exact rfl; exact rfl; (repeat (first | (with_reducible exact Outs.nil) | ((with_reducible apply Outs.cons); (repeat (first | with_reducible exact Out.here | with_reducible apply Out.there))))); (with_reducible assumption); (with_reducible assumption); intro _ _)
    | ((with_reducible apply J.rd_inv (q := q8) (L := pL l)); exact rfl; exact rfl; (repeat (first | (with_reducible exact Outs.nil) | ((with_reducible apply Outs.cons); (repeat (first | with_reducible exact Out.here | with_reducible apply Out.there))))); (with_reducible assumption); (with_reducible assumption); intro _ _)
    | ((with_reducible apply J.rd_var (q := q8) (L := pL l)); exact rfl; exact rfl; (repeat (first | (with_reducible exact Outs.nil) | ((with_reducible apply Outs.cons); (repeat (first | with_reducible exact Out.here | with_reducible apply Out.there))))); (with_reducible assumption); (with_reducible assumption); intro _ _)
    | ((with_reducible apply J.rd_wide (q := q8) (L := pL l)); exact rfl; exact rfl; (repeat (first | (with_reducible exact Outs.nil) | ((with_reducible apply Outs.cons); (repeat (first | with_reducible exact Out.here | with_reducible apply Out.there))))); (with_reducible assumption); (with_reducible assumption); intro _ _)
    | ((with_reducible apply J.rd_text (q := q8) (L := pL l)); exact rfl; exact rfl; (repeat (first | (with_reducible exact Outs.nil) | ((with_reducible apply Outs.cons); (repeat (first | with_reducible exact Out.here | with_reducible apply Out.there))))); (with_reducible assumption); (with_reducible assumption); intro _ _)
    | ((with_reducible apply J.keepsW (err_ _ _ _)); exact rfl; exact rfl; (repeat (first | (with_reducible exact Outs.nil) | ((with_reducible apply Outs.cons); (repeat (first | with_reducible exact Out.here | with_reducible apply Out.there))))))
    | ((with_reducible apply J.keepsW (left_ _ _ _)); exact rfl; exact rfl; (repeat (first | (with_reducible exact Outs.nil) | ((with_reducible apply Outs.cons); (repeat (first | with_reducible exact Out.here | with_reducible apply Out.there))))))
    | ((with_reducible apply J.givesR (chk_e m hm _ key)); exact rfl; exact rfl; focus (exact RH.true_))
    | refine J.one ?_
    | refine J.loudS ?_
    | (refine J.loudQ ?_; intro _ _)
    | (refine J.loudB ?_; intro _)
    | (with_reducible apply J.list)
    | ((with_reducible apply J.gsplit); exact rfl; exact rfl)
    | ((with_reducible first | apply J.cond | apply JC.cond); exact rfl)
    | (intro h; exfalso; (first | (simp at h; done) | (simp at h; omega) | omega))
    | (intro h; (try simp only [decide_eq_true_eq, decide_eq_false_iff_not, beq_iff_eq, beq_eq_false_iff_ne, Bool.not_eq_true', Bool.not_eq_false', bne_iff_ne, bne_eq_false_iff_eq, ne_eq, ge_iff_le, gt_iff_lt] at h))
    | (with_reducible apply J.gave')
    | ((with_reducible apply J.kept'); rotate_left; (repeat (first | (with_reducible exact Outs.nil) | ((with_reducible apply Outs.cons); (repeat (first | with_reducible exact Out.here | with_reducible apply Out.there))))))
  all_goals first
    | (simp only [retv, tk43]; rw [pEnd_n (by assumption)]; done)
    | (simp only [retv, tk43]; rw [pEnd_l (by assumption) (by have h9 := lefV_y (by assumption : (z5).2 = 0); omega)]; done)
    | (simp only [retv, tk43]; rw [pEnd_m (by assumption) (by assumption)]; done)
    | (have h7 : (z5).2 = 0 := by assumption
       have h9 := lefV_y h7
       simp only [retv, tk43]
       rw [pEnd_y h7 (by omega) (by assumption), h7]
       exact congrArg (fun x : List Value => Value.tuple #[.agg x.toArray, .int .i64 0]) key.symm)
    | (trace_state; fail)
theorem read_0 (ao : Option Addr) (n cap : Nat) (l : List UInt8) (z1 : Pz) (ki : Int) (e1 : pNum 1099511627776 (pOpen l) = (z1, ki)) (hk : ¬ ki = 1 ∧ ¬ ki = 2 ∧ ¬ ki = 3) (w : World) (hw : Rd w ao (bcs l) ∧ n = l.length ∧ n ≤ cap) : CSpec Try.prog 53 [.slice ao n cap] [] w (Gives (.tuple #[.agg (pEnd (pBody ki z1)).1.cells.toArray, .int .i64 (pEnd (pBody ki z1)).2])) := by
  obtain ⟨hr, rfl, hc⟩ := hw
  obtain ⟨m, em⟩ : ∃ m, m = (⟨ki, ak0, bd0, iv0, 0, 0, 0, []⟩ : Mg) := ⟨_, rfl⟩
  have hm : MgIn m := em ▸ ⟨i64_num e1, ak0_in, bd0_in, iv0_in, wd_0, i64_0, wd_0, Nat.zero_le _⟩
  have hb : pBody ki z1 = (z1, m) := by
    unfold pBody
    rw [if_neg hk.1, if_neg hk.2.1, if_neg hk.2.2, em]
  rw [hb]
  refine spec_own0 Try.func53 rfl Try.ntmps53 rfl (l0 := [(0, .slice ao l.length cap)]) rfl ?_
  repeat' first
    | refine J.one ?_
    | refine J.loudS ?_
    | (refine J.loudQ ?_; intro _ _)
    | (refine J.loudB ?_; intro _)
    | (with_reducible apply J.list)
    | ((with_reducible apply J.gsplit); exact rfl; exact rfl)
    | ((with_reducible first | apply J.cond | apply JC.cond); exact rfl)
    | (intro h; exfalso; fail)
    | (intro h; (try simp only [decide_eq_true_eq, decide_eq_false_iff_not, beq_iff_eq, beq_eq_false_iff_ne, Bool.not_eq_true', Bool.not_eq_false', bne_iff_ne, bne_eq_false_iff_eq, ne_eq, ge_iff_le, gt_iff_lt] at h))
    | (with_reducible apply J.gave')
    | ((with_reducible apply J.kept'); rotate_left; (repeat (first | (with_reducible exact Outs.nil) | ((with_reducible apply Outs.cons); (repeat (first | with_reducible exact Out.here | with_reducible apply Out.there))))))
  rename_i b2
  apply J.reB (b := b2) (C' := mg0.cells)
  · (repeat (first | with_reducible exact Upd.here | with_reducible apply Upd.there))
  · rfl
  have key : Mg.cells m = Mg.cells ⟨ki, ak0, bd0, iv0, 0, 0, 0, []⟩ := congrArg Mg.cells em
  repeat' first
    | (refine J.qv ?_; (with_reducible apply exq); focus (first
      | ((with_reducible apply Qv.buildS (T := 47)); exact rfl; exact (show _ = some (mg0.cells) from rfl))))
    | (refine J.qr ?_; (with_reducible apply exq); focus (first
      | ((with_reducible apply Qr.load1); exact rfl; (focus ((repeat (first | with_reducible exact In.here | with_reducible apply In.there)); done)); with_reducible exact mg_ki _)
      | ((with_reducible apply Qr.loadFull); exact rfl; (focus ((repeat (first | with_reducible exact In.here | with_reducible apply In.there)); done)); with_reducible exact mg_len _)))
    | ((with_reducible apply J.store1); exact rfl; exact rfl; exact rfl; (repeat (first | with_reducible exact Upd.here | with_reducible apply Upd.there)); (with_reducible exact ms_ki _ _); (rw [mg_len]; decide))
    | ((with_reducible apply J.store1); exact rfl; exact rfl; exact rfl; (repeat (first | with_reducible exact Upd.here | with_reducible apply Upd.there)); (with_reducible exact ms_sg _ _); (rw [mg_len]; decide))
    | ((with_reducible apply J.storeN); exact rfl; exact rfl; (repeat (first | with_reducible exact Upd.here | with_reducible apply Upd.there)); (with_reducible exact ms_ask _ _); (with_reducible exact ak_len _); (rw [mg_len]; decide); with_reducible exact ak_ones _)
    | ((with_reducible apply J.storeN); exact rfl; exact rfl; (repeat (first | with_reducible exact Upd.here | with_reducible apply Upd.there)); (with_reducible exact ms_bid _ _); (with_reducible exact bd_len _); (rw [mg_len]; decide); with_reducible exact bd_ones _)
    | ((with_reducible apply J.storeN); exact rfl; exact rfl; (repeat (first | with_reducible exact Upd.here | with_reducible apply Upd.there)); (with_reducible exact ms_inv _ _); (with_reducible exact iv_len _); (rw [mg_len]; decide); with_reducible exact iv_ones _)
    | ((with_reducible apply J.storeN); exact rfl; exact rfl; (repeat (first | with_reducible exact Upd.here | with_reducible apply Upd.there)); (with_reducible exact ms_var _ _ _); (with_reducible exact vr_len _ _); (rw [mg_len]; decide); with_reducible exact vr_ones _ _)
    | ((with_reducible apply J.storeN); exact rfl; exact rfl; (repeat (first | with_reducible exact Upd.here | with_reducible apply Upd.there)); (with_reducible exact ms_fee _ _); (with_reducible exact wv_length _); (rw [mg_len]; decide); with_reducible exact wv_ones _)
    | ((with_reducible apply J.storeFull); exact rfl; exact rfl; (repeat (first | with_reducible exact Upd.here | with_reducible apply Upd.there)); (with_reducible exact mg_len _); (with_reducible exact mg_len _); with_reducible exact mg_ones _)
    | ((with_reducible apply J.opR (open_ _ _ _ l)); exact rfl; exact rfl; (exact RH.and (RH.old hr) (RH.of ⟨rfl, hc⟩)); intro p8 q8 s8 hk8)
    | ((with_reducible apply J.rd_num (q := q8) (L := pL l)); exact rfl; exact rfl; (repeat (first | (with_reducible exact Outs.nil) | ((with_reducible apply Outs.cons); (repeat (first | with_reducible exact Out.here | with_reducible apply Out.there))))); (with_reducible assumption); (with_reducible assumption); intro _ _)
    | ((with_reducible apply J.rd_ask (q := q8) (L := pL l)); exact rfl; exact rfl; (repeat (first | (with_reducible exact Outs.nil) | ((with_reducible apply Outs.cons); (repeat (first | with_reducible exact Out.here | with_reducible apply Out.there))))); (with_reducible assumption); (with_reducible assumption); intro _ _)
    | ((with_reducible apply J.rd_inv (q := q8) (L := pL l)); exact rfl; exact rfl; (repeat (first | (with_reducible exact Outs.nil) | ((with_reducible apply Outs.cons); (repeat (first | with_reducible exact Out.here | with_reducible apply Out.there))))); (with_reducible assumption); (with_reducible assumption); intro _ _)
    | ((with_reducible apply J.rd_var (q := q8) (L := pL l)); exact rfl; exact rfl; (repeat (first | (with_reducible exact Outs.nil) | ((with_reducible apply Outs.cons); (repeat (first | with_reducible exact Out.here | with_reducible apply Out.there))))); (with_reducible assumption); (with_reducible assumption); intro _ _)
    | ((with_reducible apply J.rd_wide (q := q8) (L := pL l)); exact rfl; exact rfl; (repeat (first | (with_reducible exact Outs.nil) | ((with_reducible apply Outs.cons); (repeat (first | with_reducible exact Out.here | with_reducible apply Out.there))))); (with_reducible assumption); (with_reducible assumption); intro _ _)
    | ((with_reducible apply J.rd_text (q := q8) (L := pL l)); exact rfl; exact rfl; (repeat (first | (with_reducible exact Outs.nil) | ((with_reducible apply Outs.cons); (repeat (first | with_reducible exact Out.here | with_reducible apply Out.there))))); (with_reducible assumption); (with_reducible assumption); intro _ _)
    | ((with_reducible apply J.keepsW (err_ _ _ _)); exact rfl; exact rfl; (repeat (first | (with_reducible exact Outs.nil) | ((with_reducible apply Outs.cons); (repeat (first | with_reducible exact Out.here | with_reducible apply Out.there))))))
    | ((with_reducible apply J.keepsW (left_ _ _ _)); exact rfl; exact rfl; (repeat (first | (with_reducible exact Outs.nil) | ((with_reducible apply Outs.cons); (repeat (first | with_reducible exact Out.here | with_reducible apply Out.there))))))
    | ((with_reducible apply J.givesR (chk_e m hm _ key)); exact rfl; exact rfl; focus (exact RH.true_))
    | refine J.one ?_
    | refine J.loudS ?_
    | (refine J.loudQ ?_; intro _ _)
    | (refine J.loudB ?_; intro _)
    | (with_reducible apply J.list)
    | ((with_reducible apply J.gsplit); exact rfl; exact rfl)
    | ((with_reducible first | apply J.cond | apply JC.cond); exact rfl)
    | (intro h; exfalso; (first | (simp at h; done) | (simp at h; omega) | omega))
    | (intro h; (try simp only [decide_eq_true_eq, decide_eq_false_iff_not, beq_iff_eq, beq_eq_false_iff_ne, Bool.not_eq_true', Bool.not_eq_false', bne_iff_ne, bne_eq_false_iff_eq, ne_eq, ge_iff_le, gt_iff_lt] at h))
    | (with_reducible apply J.gave')
    | ((with_reducible apply J.kept'); rotate_left; (repeat (first | (with_reducible exact Outs.nil) | ((with_reducible apply Outs.cons); (repeat (first | with_reducible exact Out.here | with_reducible apply Out.there))))))
  all_goals first
    | (simp only [retv, tk43]; rw [pEnd_n (by assumption)]; done)
    | (simp only [retv, tk43]; rw [pEnd_l (by assumption) (by have h9 := lefV_y (by assumption : (z1).2 = 0); omega)]; done)
    | (simp only [retv, tk43]; rw [pEnd_m (by assumption) (by assumption)]; done)
    | (have h7 : (z1).2 = 0 := by assumption
       have h9 := lefV_y h7
       simp only [retv, tk43]
       rw [pEnd_y h7 (by omega) (by assumption), h7]
       exact congrArg (fun x : List Value => Value.tuple #[.agg x.toArray, .int .i64 0]) key.symm)
    | (trace_state; fail)
theorem mread_ (ao : Option Addr) (n cap : Nat) (l : List UInt8) (w : World) (hw : Rd w ao (bcs l) ∧ n = l.length ∧ n ≤ cap) : CSpec Try.prog 53 [.slice ao n cap] [] w (Gives (.tuple #[.agg (pRead l).1.cells.toArray, .int .i64 (pRead l).2])) := by
  obtain ⟨z1, ki, e1⟩ : ∃ a b, pNum 1099511627776 (pOpen l) = (a, b) := ⟨_, _, rfl⟩
  have e : pRead l = pEnd (pBody ki z1) := by unfold pRead; rw [e1]
  rw [e]
  by_cases h1 : ki = 1
  · exact read_1 ao n cap l z1 ki e1 h1 w hw
  · by_cases h2 : ki = 2
    · exact read_2 ao n cap l z1 ki e1 h2 w hw
    · by_cases h3 : ki = 3
      · exact read_3 ao n cap l z1 ki e1 h3 w hw
      · exact read_0 ao n cap l z1 ki e1 ⟨h1, h2, h3⟩ w hw
end Go.Proofs.Ytfcaeifpclpnoaa.Mrd
