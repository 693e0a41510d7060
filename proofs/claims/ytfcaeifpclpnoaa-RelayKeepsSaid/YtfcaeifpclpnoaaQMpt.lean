/-
  Messages that are written. No conditions.
-/
import Derived.Test.YtfcaeifpclpnoaaQMch
namespace Go.Proofs.Ytfcaeifpclpnoaa.Mpt
open Go Go.RowKit Eng
set_option linter.unusedVariables false
set_option maxRecDepth 100000
set_option linter.unusedSimpArgs false
open Sha Iter Hash Bytes Hsum Wide Tx Field Deal Msg Cas Mch
set_option maxHeartbeats 1000000
/-- An ask's octets. -/
def askB (a : Ak) : List UInt8 := num a.us.toNat 6 ++ num a.se.toNat 6 ++ num a.re.toNat 6 ++ num a.to.toNat 6 ++ wb a.am ++ tx a.id
theorem askB_length (a : Ak) : (askB a).length = 58 + a.id.length := by
  unfold askB
  simp only [List.length_append, tx_length, num_length, wb_length]
  omega
theorem ask_ok {a : Ak} (h : askE a = 0) : a.am ≠ 0 ∧ 0 ≤ a.us ∧ a.us ≤ 1 ∧ 0 ≤ a.se ∧ a.se ≤ 1 ∧ 0 ≤ a.re ∧ a.re ≤ 1 ∧ 0 ≤ a.to ∧ a.to ≤ 7 ∧ 1 ≤ a.id.length ∧ a.id.length ≤ 16 := by
  by_cases h0 : a.am = 0
  · rw [askE_0 h0] at h; exact absurd h (by decide)
  · rw [askE_1 h0] at h
    obtain ⟨u0, u1, _, _, s0, s1, e0, e1, t0, t1, _, i0, i1⟩ := inv_ok h
    exact ⟨h0, u0, u1, s0, s1, e0, e1, t0, t1, i0, i1⟩
theorem bid_ok {b : Bd} (h : bidE b = 0) : b.am ≠ 0 ∧ b.am ≤ b.ask.am ∧ askE b.ask = 0 ∧ 0 ≤ b.un ∧ b.un ≤ 1099511627776 ∧ b.sg.length ≤ 1024 ∧ 2 ≤ b.ro ∧ b.ro ≤ 3 := by
  unfold bidE at h
  split at h
  · omega
  · rename_i h1
    have h2 := inv_ok h
    have h3 : ¬ b.ask.am < b.am := fun h4 => h1 (.inr (.inl (by unfold wcmp; rw [if_neg (by omega), if_pos h4]; decide)))
    omega
/-- A message's octets. -/
def mgB (m : Mg) : List UInt8 := num m.ki.toNat 6 ++ (if m.ki = 1 then askB m.ask else if m.ki = 2 then num m.bid.ro.toNat 6 ++ askB m.bid.ask ++ wb m.bid.am ++ num m.bid.un.toNat 6 ++ tx m.bid.sg else invB m.inv.us m.inv.rt m.inv.ro m.inv.se m.inv.re m.inv.to m.inv.id ++ varB m.va m.ex ++ wb m.fee ++ tx m.sg)
theorem mg_kinds {m : Mg} (h : mgE m = 0) : (m.ki = 1 ∧ askE m.ask = 0) ∨ (m.ki = 2 ∧ bidE m.bid = 0) ∨ (m.ki = 3 ∧ invE m.inv.us m.inv.rt m.inv.ro m.inv.se m.inv.re m.inv.to m.inv.id = 0 ∧ sndE m.va m.ex = 0 ∧ m.sg.length ≤ 1024) := by
  unfold mgE at h
  split at h
  · exact .inl ⟨by assumption, h⟩
  · split at h
    · exact .inr (.inl ⟨by assumption, h⟩)
    · split at h
      · split at h
        · split at h
          · split at h
            · omega
            · exact .inr (.inr ⟨by assumption, by assumption, by assumption, by omega⟩)
          · rename_i h1; exact absurd h h1
        · rename_i h1; exact absurd h h1
      · omega
theorem mgB_1 {m : Mg} (h : m.ki = 1) : mgB m = num m.ki.toNat 6 ++ askB m.ask := by unfold mgB; rw [if_pos h]
theorem mgB_2 {m : Mg} (h : m.ki = 2) : mgB m = num m.ki.toNat 6 ++ (num m.bid.ro.toNat 6 ++ askB m.bid.ask ++ wb m.bid.am ++ num m.bid.un.toNat 6 ++ tx m.bid.sg) := by unfold mgB; rw [if_neg (by omega), if_pos h]
theorem mgB_3 {m : Mg} (h : m.ki = 3) : mgB m = num m.ki.toNat 6 ++ (invB m.inv.us m.inv.rt m.inv.ro m.inv.se m.inv.re m.inv.to m.inv.id ++ varB m.va m.ex ++ wb m.fee ++ tx m.sg) := by unfold mgB; rw [if_neg (by omega), if_neg (by omega)]
theorem mgB_le {m : Mg} (h : mgE m = 0) : (mgB m).length ≤ 2000 := by
  rcases mg_kinds h with ⟨h1, h2⟩ | ⟨h1, h2⟩ | ⟨h1, h2, h3, h4⟩
  · rw [mgB_1 h1]
    have := ask_ok h2
    simp only [List.length_append, num_length, askB_length]
    omega
  · rw [mgB_2 h1]
    have h3 := bid_ok h2
    have := ask_ok h3.2.2.1
    simp only [List.length_append, num_length, askB_length, wb_length, tx_length]
    omega
  · rw [mgB_3 h1]
    have := inv_ok h2
    simp only [List.length_append, num_length, invB_length, varB_length, wb_length, tx_length]
    omega
theorem ak_am (a : Ak) : (a.cells.drop 4).take 4 = wv a.am := rfl
theorem vr_len (a b : Int) : (varc a b).length = 5 := rfl
theorem put_ask (p : Nat) (l : List UInt8) (a : Ak) (w : World) (hw : askE a = 0 ∧ 0 ≤ a.am ∧ l.length ≤ 4000) : CSpec Try.prog 47 [.pointer (some ⟨p, 0, none⟩), .agg a.cells.toArray] [ow p l] w (Turns (.tuple #[]) [ow p (l ++ askB a)]) := by
  obtain ⟨hx, ham, hm⟩ := hw
  obtain ⟨a0, u0, u1, s0, s1, e0, e1, t0, t1, i0, i1⟩ := ask_ok hx
  refine spec_of Try.func47 rfl Try.ntmps47 rfl (l0 := [(0, .pointer (some ⟨p, 0, none⟩)), (1, .agg a.cells.toArray)]) rfl ?_
  intro fp
  repeat' first
    | (with_reducible refine J.rounds 5 ?_)
    | (with_reducible apply J.round)
    | (refine J.qr ?_; (with_reducible apply exq); focus (first
      | ((with_reducible apply Qr.loadN); exact rfl; (focus ((repeat (first | with_reducible exact In.here | with_reducible apply In.there)); done)); (with_reducible first | exact mg_ask _ | exact mg_bask _ | exact mg_bam _ | exact mg_inv _ | exact mg_var _ | exact mg_fee _ | exact ak_am _); (with_reducible first | exact ak_len _ | exact wv_length _ | exact iv_len _ | exact vr_len _ _))
      | ((with_reducible apply Qr.load1); exact rfl; (focus ((repeat (first | with_reducible exact In.here | with_reducible apply In.there)); done)); exact rfl)))
    | ((with_reducible apply J.turnsP (text_w _ _ _)); exact rfl; exact rfl; (repeat (first | (with_reducible exact Outs.nil) | ((with_reducible apply Outs.cons); (repeat (first | with_reducible exact Out.here | with_reducible apply Out.there))))); (focus ((refine ⟨?_, ?_⟩ <;> first | (simp; done) | omega | (simp only [List.length_append, tx_length, num_length, wb_length, askB_length, invB_length, varB_length, List.length_cons, List.length_nil]; omega)))); (try dsimp only [List.cons_append, List.nil_append]))
    | ((with_reducible apply J.turnsP (num_w _ _ _)); exact rfl; exact rfl; (repeat (first | (with_reducible exact Outs.nil) | ((with_reducible apply Outs.cons); (repeat (first | with_reducible exact Out.here | with_reducible apply Out.there))))); (focus ((refine ⟨?_, ?_, ?_⟩ <;> first | omega | (simp only [List.length_append, tx_length, num_length, wb_length, askB_length, invB_length, varB_length, List.length_cons, List.length_nil]; omega)))); (try dsimp only [List.cons_append, List.nil_append]))
    | ((with_reducible apply J.turnsP (wide_w _ _ _)); exact rfl; exact rfl; (repeat (first | (with_reducible exact Outs.nil) | ((with_reducible apply Outs.cons); (repeat (first | with_reducible exact Out.here | with_reducible apply Out.there))))); (focus ((refine ⟨?_, ?_⟩ <;> first | omega | (with_reducible assumption) | (simp only [List.length_append, tx_length, num_length, wb_length, askB_length, invB_length, varB_length, List.length_cons, List.length_nil]; omega)))); (try dsimp only [List.cons_append, List.nil_append]))
    | refine J.one ?_
    | refine J.loudS ?_
    | (refine J.loudQ ?_; intro _ _)
    | (refine J.loudB ?_; intro _)
    | (with_reducible apply J.list)
    | ((with_reducible apply J.gsplit); exact rfl; exact rfl)
    | ((with_reducible first | apply J.cond | apply JC.cond); exact rfl)
    | (intro h; exfalso; (first | (revert h; decide) | (simp at h; done)))
    | (intro h; (try simp only [decide_eq_true_eq, decide_eq_false_iff_not, beq_iff_eq, beq_eq_false_iff_ne, Bool.not_eq_true', Bool.not_eq_false', bne_iff_ne, bne_eq_false_iff_eq, ne_eq, ge_iff_le, gt_iff_lt] at h))
    | (with_reducible apply J.gave')
    | ((with_reducible apply J.kept'); rotate_left; (repeat (first | (with_reducible exact Outs.nil) | ((with_reducible apply Outs.cons); (repeat (first | with_reducible exact Out.here | with_reducible apply Out.there))))))
  all_goals
    first
    | (apply J.reOut (bs' := l ++ askB a)
       · (repeat (first | with_reducible exact Upd.here | with_reducible apply Upd.there))
       · unfold askB; simp only [List.append_assoc]
       ((with_reducible apply J.turned); exact rfl; (repeat (first | (with_reducible exact Outs.nil) | ((with_reducible apply Outs.cons); (repeat (first | with_reducible exact Out.here | with_reducible apply Out.there)))))))
    | (trace_state; fail)
theorem put_x (m : Mg) (hm : MgIn m) (x : Int) (hx : mgE m = x) (h0 : x ≠ 0) (w : World) (hw : True) : CSpec Try.prog 19 [.agg m.cells.toArray] [] w (Gives (.tuple #[.slice none 0 0, .int .i64 x])) := by
  have hck := check_mg m hm
  rw [hx] at hck
  refine spec_own0 Try.func19 rfl Try.ntmps19 rfl (l0 := [(0, .agg m.cells.toArray)]) rfl ?_
  repeat' first
    | (refine J.qr ?_; (with_reducible apply exq); focus (first
      | ((with_reducible apply Qr.load1); exact rfl; (focus ((repeat (first | with_reducible exact In.here | with_reducible apply In.there)); done)); (with_reducible first | exact mg_ki _ | exact mg_sg _ | exact mg_bro _ | exact mg_bun _ | exact mg_bsg _))
      | ((with_reducible apply Qr.loadN); exact rfl; (focus ((repeat (first | with_reducible exact In.here | with_reducible apply In.there)); done)); (with_reducible first | exact mg_ask _ | exact mg_bask _ | exact mg_bam _ | exact mg_inv _ | exact mg_var _ | exact mg_fee _ | exact ak_am _); (with_reducible first | exact ak_len _ | exact wv_length _ | exact iv_len _ | exact vr_len _ _))
      | ((with_reducible apply Qr.loadFull); exact rfl; (focus ((repeat (first | with_reducible exact In.here | with_reducible apply In.there)); done)); with_reducible exact mg_len _)))
    | ((with_reducible apply J.givesR (hck)); exact rfl; exact rfl; focus (exact RH.true_))
    | refine J.one ?_
    | refine J.loudS ?_
    | (refine J.loudQ ?_; intro _ _)
    | (refine J.loudB ?_; intro _)
    | (with_reducible apply J.list)
    | ((with_reducible apply J.gsplit); exact rfl; exact rfl)
    | ((with_reducible first | apply J.cond | apply JC.cond); exact rfl)
    | (intro h; exfalso; (first | exact h0 h | (simp [h0] at h; done) | (simp at h; done)))
    | (intro h; (try simp only [decide_eq_true_eq, decide_eq_false_iff_not, beq_iff_eq, beq_eq_false_iff_ne, Bool.not_eq_true', Bool.not_eq_false', bne_iff_ne, bne_eq_false_iff_eq, ne_eq, ge_iff_le, gt_iff_lt] at h))
    | (with_reducible apply J.gave')
    | ((with_reducible apply J.kept'); rotate_left; (repeat (first | (with_reducible exact Outs.nil) | ((with_reducible apply Outs.cons); (repeat (first | with_reducible exact Out.here | with_reducible apply Out.there))))))
  all_goals rfl
theorem put_1 (m : Mg) (hm : MgIn m) (hx : mgE m = 0) (hc : m.ki = 1 ∧ askE m.ask = 0) (w : World) (hw : True) : CSpec Try.prog 19 [.agg m.cells.toArray] [] w (DoneP 5 (mgB m).length (bcs (mgB m)) []) := by
  have hck := check_mg m hm
  rw [hx] at hck
  obtain ⟨hk, h1⟩ := hc
  obtain ⟨a0, u0, u1, s0, s1, e0, e1, t0, t1, i0, i1⟩ := ask_ok h1
  have ham : 0 ≤ m.ask.am := hm.ask.am.1
  refine spec_own0 Try.func19 rfl Try.ntmps19 rfl (l0 := [(0, .agg m.cells.toArray)]) rfl ?_
  repeat' first
    | (refine J.qr ?_; (with_reducible apply exq); focus (first
      | ((with_reducible apply Qr.load1); exact rfl; (focus ((repeat (first | with_reducible exact In.here | with_reducible apply In.there)); done)); (with_reducible first | exact mg_ki _ | exact mg_sg _ | exact mg_bro _ | exact mg_bun _ | exact mg_bsg _))
      | ((with_reducible apply Qr.loadN); exact rfl; (focus ((repeat (first | with_reducible exact In.here | with_reducible apply In.there)); done)); (with_reducible first | exact mg_ask _ | exact mg_bask _ | exact mg_bam _ | exact mg_inv _ | exact mg_var _ | exact mg_fee _ | exact ak_am _); (with_reducible first | exact ak_len _ | exact wv_length _ | exact iv_len _ | exact vr_len _ _))
      | ((with_reducible apply Qr.loadFull); exact rfl; (focus ((repeat (first | with_reducible exact In.here | with_reducible apply In.there)); done)); with_reducible exact mg_len _)))
    | ((with_reducible apply J.givesR (hck)); exact rfl; exact rfl; focus (exact RH.true_))
    | ((with_reducible apply J.newP new_); exact rfl; exact rfl; trivial; intro _; (try dsimp only [List.cons_append, List.nil_append]))
    | ((with_reducible apply J.turnsP (num_w _ _ _)); exact rfl; exact rfl; (repeat (first | (with_reducible exact Outs.nil) | ((with_reducible apply Outs.cons); (repeat (first | with_reducible exact Out.here | with_reducible apply Out.there))))); (focus ((refine ⟨?_, ?_, ?_⟩ <;> first | omega | (simp only [List.length_append, tx_length, num_length, wb_length, askB_length, invB_length, varB_length, List.length_cons, List.length_nil]; omega)))); (try dsimp only [List.cons_append, List.nil_append]))
    | ((with_reducible apply J.turnsP (put_ask _ _ _)); exact rfl; exact rfl; (repeat (first | (with_reducible exact Outs.nil) | ((with_reducible apply Outs.cons); (repeat (first | with_reducible exact Out.here | with_reducible apply Out.there))))); (focus ((refine ⟨by assumption, by omega, ?_⟩; (simp only [List.length_append, tx_length, num_length, wb_length, askB_length, invB_length, varB_length, List.length_cons, List.length_nil]; omega)))); (try dsimp only [List.cons_append, List.nil_append]))
    | ((with_reducible apply J.turnsP (wide_w _ _ _)); exact rfl; exact rfl; (repeat (first | (with_reducible exact Outs.nil) | ((with_reducible apply Outs.cons); (repeat (first | with_reducible exact Out.here | with_reducible apply Out.there))))); (focus ((refine ⟨?_, ?_⟩ <;> first | omega | (with_reducible assumption) | (simp only [List.length_append, tx_length, num_length, wb_length, askB_length, invB_length, varB_length, List.length_cons, List.length_nil]; omega)))); (try dsimp only [List.cons_append, List.nil_append]))
    | ((with_reducible apply J.turnsP (text_w _ _ _)); exact rfl; exact rfl; (repeat (first | (with_reducible exact Outs.nil) | ((with_reducible apply Outs.cons); (repeat (first | with_reducible exact Out.here | with_reducible apply Out.there))))); (focus ((refine ⟨?_, ?_⟩ <;> first | (simp; done) | omega | (simp only [List.length_append, tx_length, num_length, wb_length, askB_length, invB_length, varB_length, List.length_cons, List.length_nil]; omega)))); (try dsimp only [List.cons_append, List.nil_append]))
    | ((with_reducible apply J.turnsP (Deal.put_inv _ _ m.inv.us m.inv.rt m.inv.ro m.inv.se m.inv.re m.inv.to m.inv.id)); exact rfl; exact rfl; (repeat (first | (with_reducible exact Outs.nil) | ((with_reducible apply Outs.cons); (repeat (first | with_reducible exact Out.here | with_reducible apply Out.there))))); (focus ((refine ⟨by assumption, ?_⟩; (simp only [List.length_append, tx_length, num_length, wb_length, askB_length, invB_length, varB_length, List.length_cons, List.length_nil]; omega)))); (try dsimp only [List.cons_append, List.nil_append]))
    | ((with_reducible apply J.turnsP (Deal.put_var _ _ m.va m.ex)); exact rfl; exact rfl; (repeat (first | (with_reducible exact Outs.nil) | ((with_reducible apply Outs.cons); (repeat (first | with_reducible exact Out.here | with_reducible apply Out.there))))); (focus ((refine ⟨by omega, by omega, by omega, ?_⟩; (simp only [List.length_append, tx_length, num_length, wb_length, askB_length, invB_length, varB_length, List.length_cons, List.length_nil]; omega)))); (try dsimp only [List.cons_append, List.nil_append]))
    | ((with_reducible apply J.doneP (Deal.done_ _ _)); exact rfl; exact rfl; (repeat (first | (with_reducible exact Outs.nil) | ((with_reducible apply Outs.cons); (repeat (first | with_reducible exact Out.here | with_reducible apply Out.there))))); (focus ((simp only [List.length_append, tx_length, num_length, wb_length, askB_length, invB_length, varB_length, List.length_cons, List.length_nil]; omega))); intro q8 hq8; (try dsimp only [List.cons_append, List.nil_append]))
    | refine J.one ?_
    | refine J.loudS ?_
    | (refine J.loudQ ?_; intro _ _)
    | (refine J.loudB ?_; intro _)
    | (with_reducible apply J.list)
    | ((with_reducible apply J.gsplit); exact rfl; exact rfl)
    | ((with_reducible first | apply J.cond | apply JC.cond); exact rfl)
    | (intro h; exfalso; (first | (simp at h; done) | (simp at h; omega) | omega))
    | (intro h; (try simp only [decide_eq_true_eq, decide_eq_false_iff_not, beq_iff_eq, beq_eq_false_iff_ne, Bool.not_eq_true', Bool.not_eq_false', bne_iff_ne, bne_eq_false_iff_eq, ne_eq, ge_iff_le, gt_iff_lt] at h))
    | (with_reducible apply J.gave')
    | ((with_reducible apply J.kept'); rotate_left; (repeat (first | (with_reducible exact Outs.nil) | ((with_reducible apply Outs.cons); (repeat (first | with_reducible exact Out.here | with_reducible apply Out.there))))))
  all_goals first
    | ((with_reducible apply J.done')
       · (repeat (first | (with_reducible exact Outs.nil) | ((with_reducible apply Outs.cons); (repeat (first | with_reducible exact Out.here | with_reducible apply Out.there)))))
       · rfl
       · (rw [mgB_1 hk]; try simp only [List.nil_append, List.append_assoc])
       · (rw [mgB_1 hk]; try simp only [List.nil_append, List.append_assoc])
       · assumption)
    | (trace_state; fail)
theorem put_2 (m : Mg) (hm : MgIn m) (hx : mgE m = 0) (hc : m.ki = 2 ∧ bidE m.bid = 0) (w : World) (hw : True) : CSpec Try.prog 19 [.agg m.cells.toArray] [] w (DoneP 5 (mgB m).length (bcs (mgB m)) []) := by
  have hck := check_mg m hm
  rw [hx] at hck
  obtain ⟨hk, h2⟩ := hc
  obtain ⟨b0, b1, h1, b3, b4, b5, b6, b7⟩ := bid_ok h2
  obtain ⟨a0, u0, u1, s0, s1, e0, e1, t0, t1, i0, i1⟩ := ask_ok h1
  have ham : 0 ≤ m.bid.ask.am := hm.bid.ask.am.1
  have hbm : 0 ≤ m.bid.am := hm.bid.am.1
  refine spec_own0 Try.func19 rfl Try.ntmps19 rfl (l0 := [(0, .agg m.cells.toArray)]) rfl ?_
  repeat' first
    | (refine J.qr ?_; (with_reducible apply exq); focus (first
      | ((with_reducible apply Qr.load1); exact rfl; (focus ((repeat (first | with_reducible exact In.here | with_reducible apply In.there)); done)); (with_reducible first | exact mg_ki _ | exact mg_sg _ | exact mg_bro _ | exact mg_bun _ | exact mg_bsg _))
      | ((with_reducible apply Qr.loadN); exact rfl; (focus ((repeat (first | with_reducible exact In.here | with_reducible apply In.there)); done)); (with_reducible first | exact mg_ask _ | exact mg_bask _ | exact mg_bam _ | exact mg_inv _ | exact mg_var _ | exact mg_fee _ | exact ak_am _); (with_reducible first | exact ak_len _ | exact wv_length _ | exact iv_len _ | exact vr_len _ _))
      | ((with_reducible apply Qr.loadFull); exact rfl; (focus ((repeat (first | with_reducible exact In.here | with_reducible apply In.there)); done)); with_reducible exact mg_len _)))
    | ((with_reducible apply J.givesR (hck)); exact rfl; exact rfl; focus (exact RH.true_))
    | ((with_reducible apply J.newP new_); exact rfl; exact rfl; trivial; intro _; (try dsimp only [List.cons_append, List.nil_append]))
    | ((with_reducible apply J.turnsP (num_w _ _ _)); exact rfl; exact rfl; (repeat (first | (with_reducible exact Outs.nil) | ((with_reducible apply Outs.cons); (repeat (first | with_reducible exact Out.here | with_reducible apply Out.there))))); (focus ((refine ⟨?_, ?_, ?_⟩ <;> first | omega | (simp only [List.length_append, tx_length, num_length, wb_length, askB_length, invB_length, varB_length, List.length_cons, List.length_nil]; omega)))); (try dsimp only [List.cons_append, List.nil_append]))
    | ((with_reducible apply J.turnsP (put_ask _ _ _)); exact rfl; exact rfl; (repeat (first | (with_reducible exact Outs.nil) | ((with_reducible apply Outs.cons); (repeat (first | with_reducible exact Out.here | with_reducible apply Out.there))))); (focus ((refine ⟨by assumption, by omega, ?_⟩; (simp only [List.length_append, tx_length, num_length, wb_length, askB_length, invB_length, varB_length, List.length_cons, List.length_nil]; omega)))); (try dsimp only [List.cons_append, List.nil_append]))
    | ((with_reducible apply J.turnsP (wide_w _ _ _)); exact rfl; exact rfl; (repeat (first | (with_reducible exact Outs.nil) | ((with_reducible apply Outs.cons); (repeat (first | with_reducible exact Out.here | with_reducible apply Out.there))))); (focus ((refine ⟨?_, ?_⟩ <;> first | omega | (with_reducible assumption) | (simp only [List.length_append, tx_length, num_length, wb_length, askB_length, invB_length, varB_length, List.length_cons, List.length_nil]; omega)))); (try dsimp only [List.cons_append, List.nil_append]))
    | ((with_reducible apply J.turnsP (text_w _ _ _)); exact rfl; exact rfl; (repeat (first | (with_reducible exact Outs.nil) | ((with_reducible apply Outs.cons); (repeat (first | with_reducible exact Out.here | with_reducible apply Out.there))))); (focus ((refine ⟨?_, ?_⟩ <;> first | (simp; done) | omega | (simp only [List.length_append, tx_length, num_length, wb_length, askB_length, invB_length, varB_length, List.length_cons, List.length_nil]; omega)))); (try dsimp only [List.cons_append, List.nil_append]))
    | ((with_reducible apply J.turnsP (Deal.put_inv _ _ m.inv.us m.inv.rt m.inv.ro m.inv.se m.inv.re m.inv.to m.inv.id)); exact rfl; exact rfl; (repeat (first | (with_reducible exact Outs.nil) | ((with_reducible apply Outs.cons); (repeat (first | with_reducible exact Out.here | with_reducible apply Out.there))))); (focus ((refine ⟨by assumption, ?_⟩; (simp only [List.length_append, tx_length, num_length, wb_length, askB_length, invB_length, varB_length, List.length_cons, List.length_nil]; omega)))); (try dsimp only [List.cons_append, List.nil_append]))
    | ((with_reducible apply J.turnsP (Deal.put_var _ _ m.va m.ex)); exact rfl; exact rfl; (repeat (first | (with_reducible exact Outs.nil) | ((with_reducible apply Outs.cons); (repeat (first | with_reducible exact Out.here | with_reducible apply Out.there))))); (focus ((refine ⟨by omega, by omega, by omega, ?_⟩; (simp only [List.length_append, tx_length, num_length, wb_length, askB_length, invB_length, varB_length, List.length_cons, List.length_nil]; omega)))); (try dsimp only [List.cons_append, List.nil_append]))
    | ((with_reducible apply J.doneP (Deal.done_ _ _)); exact rfl; exact rfl; (repeat (first | (with_reducible exact Outs.nil) | ((with_reducible apply Outs.cons); (repeat (first | with_reducible exact Out.here | with_reducible apply Out.there))))); (focus ((simp only [List.length_append, tx_length, num_length, wb_length, askB_length, invB_length, varB_length, List.length_cons, List.length_nil]; omega))); intro q8 hq8; (try dsimp only [List.cons_append, List.nil_append]))
    | refine J.one ?_
    | refine J.loudS ?_
    | (refine J.loudQ ?_; intro _ _)
    | (refine J.loudB ?_; intro _)
    | (with_reducible apply J.list)
    | ((with_reducible apply J.gsplit); exact rfl; exact rfl)
    | ((with_reducible first | apply J.cond | apply JC.cond); exact rfl)
    | (intro h; exfalso; (first | (simp at h; done) | (simp at h; omega) | omega))
    | (intro h; (try simp only [decide_eq_true_eq, decide_eq_false_iff_not, beq_iff_eq, beq_eq_false_iff_ne, Bool.not_eq_true', Bool.not_eq_false', bne_iff_ne, bne_eq_false_iff_eq, ne_eq, ge_iff_le, gt_iff_lt] at h))
    | (with_reducible apply J.gave')
    | ((with_reducible apply J.kept'); rotate_left; (repeat (first | (with_reducible exact Outs.nil) | ((with_reducible apply Outs.cons); (repeat (first | with_reducible exact Out.here | with_reducible apply Out.there))))))
  all_goals first
    | ((with_reducible apply J.done')
       · (repeat (first | (with_reducible exact Outs.nil) | ((with_reducible apply Outs.cons); (repeat (first | with_reducible exact Out.here | with_reducible apply Out.there)))))
       · rfl
       · (rw [mgB_2 hk]; try simp only [List.nil_append, List.append_assoc])
       · (rw [mgB_2 hk]; try simp only [List.nil_append, List.append_assoc])
       · assumption)
    | (trace_state; fail)
theorem put_3 (m : Mg) (hm : MgIn m) (hx : mgE m = 0) (hc : m.ki = 3 ∧ invE m.inv.us m.inv.rt m.inv.ro m.inv.se m.inv.re m.inv.to m.inv.id = 0 ∧ sndE m.va m.ex = 0 ∧ m.sg.length ≤ 1024) (w : World) (hw : True) : CSpec Try.prog 19 [.agg m.cells.toArray] [] w (DoneP 5 (mgB m).length (bcs (mgB m)) []) := by
  have hck := check_mg m hm
  rw [hx] at hck
  obtain ⟨hk, h1, h2, h3⟩ := hc
  obtain ⟨u0, u1, r0, r1, s0, s1, e0, e1, t0, t1, rl, i0, i1⟩ := inv_ok h1
  obtain ⟨v0, v1, v2⟩ := var_ok h2
  have hva : 0 ≤ m.va := hm.va.1
  have hfe : 0 ≤ m.fee := hm.fee.1
  refine spec_own0 Try.func19 rfl Try.ntmps19 rfl (l0 := [(0, .agg m.cells.toArray)]) rfl ?_
  repeat' first
    | (refine J.qr ?_; (with_reducible apply exq); focus (first
      | ((with_reducible apply Qr.load1); exact rfl; (focus ((repeat (first | with_reducible exact In.here | with_reducible apply In.there)); done)); (with_reducible first | exact mg_ki _ | exact mg_sg _ | exact mg_bro _ | exact mg_bun _ | exact mg_bsg _))
      | ((with_reducible apply Qr.loadN); exact rfl; (focus ((repeat (first | with_reducible exact In.here | with_reducible apply In.there)); done)); (with_reducible first | exact mg_ask _ | exact mg_bask _ | exact mg_bam _ | exact mg_inv _ | exact mg_var _ | exact mg_fee _ | exact ak_am _); (with_reducible first | exact ak_len _ | exact wv_length _ | exact iv_len _ | exact vr_len _ _))
      | ((with_reducible apply Qr.loadFull); exact rfl; (focus ((repeat (first | with_reducible exact In.here | with_reducible apply In.there)); done)); with_reducible exact mg_len _)))
    | ((with_reducible apply J.givesR (hck)); exact rfl; exact rfl; focus (exact RH.true_))
    | ((with_reducible apply J.newP new_); exact rfl; exact rfl; trivial; intro _; (try dsimp only [List.cons_append, List.nil_append]))
    | ((with_reducible apply J.turnsP (num_w _ _ _)); exact rfl; exact rfl; (repeat (first | (with_reducible exact Outs.nil) | ((with_reducible apply Outs.cons); (repeat (first | with_reducible exact Out.here | with_reducible apply Out.there))))); (focus ((refine ⟨?_, ?_, ?_⟩ <;> first | omega | (simp only [List.length_append, tx_length, num_length, wb_length, askB_length, invB_length, varB_length, List.length_cons, List.length_nil]; omega)))); (try dsimp only [List.cons_append, List.nil_append]))
    | ((with_reducible apply J.turnsP (put_ask _ _ _)); exact rfl; exact rfl; (repeat (first | (with_reducible exact Outs.nil) | ((with_reducible apply Outs.cons); (repeat (first | with_reducible exact Out.here | with_reducible apply Out.there))))); (focus ((refine ⟨by assumption, by omega, ?_⟩; (simp only [List.length_append, tx_length, num_length, wb_length, askB_length, invB_length, varB_length, List.length_cons, List.length_nil]; omega)))); (try dsimp only [List.cons_append, List.nil_append]))
    | ((with_reducible apply J.turnsP (wide_w _ _ _)); exact rfl; exact rfl; (repeat (first | (with_reducible exact Outs.nil) | ((with_reducible apply Outs.cons); (repeat (first | with_reducible exact Out.here | with_reducible apply Out.there))))); (focus ((refine ⟨?_, ?_⟩ <;> first | omega | (with_reducible assumption) | (simp only [List.length_append, tx_length, num_length, wb_length, askB_length, invB_length, varB_length, List.length_cons, List.length_nil]; omega)))); (try dsimp only [List.cons_append, List.nil_append]))
    | ((with_reducible apply J.turnsP (text_w _ _ _)); exact rfl; exact rfl; (repeat (first | (with_reducible exact Outs.nil) | ((with_reducible apply Outs.cons); (repeat (first | with_reducible exact Out.here | with_reducible apply Out.there))))); (focus ((refine ⟨?_, ?_⟩ <;> first | (simp; done) | omega | (simp only [List.length_append, tx_length, num_length, wb_length, askB_length, invB_length, varB_length, List.length_cons, List.length_nil]; omega)))); (try dsimp only [List.cons_append, List.nil_append]))
    | ((with_reducible apply J.turnsP (Deal.put_inv _ _ m.inv.us m.inv.rt m.inv.ro m.inv.se m.inv.re m.inv.to m.inv.id)); exact rfl; exact rfl; (repeat (first | (with_reducible exact Outs.nil) | ((with_reducible apply Outs.cons); (repeat (first | with_reducible exact Out.here | with_reducible apply Out.there))))); (focus ((refine ⟨by assumption, ?_⟩; (simp only [List.length_append, tx_length, num_length, wb_length, askB_length, invB_length, varB_length, List.length_cons, List.length_nil]; omega)))); (try dsimp only [List.cons_append, List.nil_append]))
    | ((with_reducible apply J.turnsP (Deal.put_var _ _ m.va m.ex)); exact rfl; exact rfl; (repeat (first | (with_reducible exact Outs.nil) | ((with_reducible apply Outs.cons); (repeat (first | with_reducible exact Out.here | with_reducible apply Out.there))))); (focus ((refine ⟨by omega, by omega, by omega, ?_⟩; (simp only [List.length_append, tx_length, num_length, wb_length, askB_length, invB_length, varB_length, List.length_cons, List.length_nil]; omega)))); (try dsimp only [List.cons_append, List.nil_append]))
    | ((with_reducible apply J.doneP (Deal.done_ _ _)); exact rfl; exact rfl; (repeat (first | (with_reducible exact Outs.nil) | ((with_reducible apply Outs.cons); (repeat (first | with_reducible exact Out.here | with_reducible apply Out.there))))); (focus ((simp only [List.length_append, tx_length, num_length, wb_length, askB_length, invB_length, varB_length, List.length_cons, List.length_nil]; omega))); intro q8 hq8; (try dsimp only [List.cons_append, List.nil_append]))
    | refine J.one ?_
    | refine J.loudS ?_
    | (refine J.loudQ ?_; intro _ _)
    | (refine J.loudB ?_; intro _)
    | (with_reducible apply J.list)
    | ((with_reducible apply J.gsplit); exact rfl; exact rfl)
    | ((with_reducible first | apply J.cond | apply JC.cond); exact rfl)
    | (intro h; exfalso; (first | (simp at h; done) | (simp at h; omega) | omega))
    | (intro h; (try simp only [decide_eq_true_eq, decide_eq_false_iff_not, beq_iff_eq, beq_eq_false_iff_ne, Bool.not_eq_true', Bool.not_eq_false', bne_iff_ne, bne_eq_false_iff_eq, ne_eq, ge_iff_le, gt_iff_lt] at h))
    | (with_reducible apply J.gave')
    | ((with_reducible apply J.kept'); rotate_left; (repeat (first | (with_reducible exact Outs.nil) | ((with_reducible apply Outs.cons); (repeat (first | with_reducible exact Out.here | with_reducible apply Out.there))))))
  all_goals first
    | ((with_reducible apply J.done')
       · (repeat (first | (with_reducible exact Outs.nil) | ((with_reducible apply Outs.cons); (repeat (first | with_reducible exact Out.here | with_reducible apply Out.there)))))
       · rfl
       · (rw [mgB_3 hk]; try simp only [List.nil_append, List.append_assoc])
       · (rw [mgB_3 hk]; try simp only [List.nil_append, List.append_assoc])
       · assumption)
    | (trace_state; fail)
theorem mput_ (m : Mg) (hm : MgIn m) (hx : mgE m = 0) (w : World) (hw : True) : CSpec Try.prog 19 [.agg m.cells.toArray] [] w (DoneP 5 (mgB m).length (bcs (mgB m)) []) := by
  rcases mg_kinds hx with h | h | h
  · exact put_1 m hm hx h w trivial
  · exact put_2 m hm hx h w trivial
  · exact put_3 m hm hx h w trivial
end Go.Proofs.Ytfcaeifpclpnoaa.Mpt
