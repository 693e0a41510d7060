/-
  Messages: which may be. No conditions.
-/
import Derived.Test.YtfcaeifpclpnoaaQRdr
import Derived.Test.YtfcaeifpclpnoaaQCmp
namespace Go.Proofs.Ytfcaeifpclpnoaa.Mch
open Go Go.RowKit Eng
set_option linter.unusedVariables false
set_option maxRecDepth 100000
set_option linter.unusedSimpArgs false
open Sha Iter Hash Bytes Hsum Wide Tx Field Deal Msg Fld Fld2 Unw Fld3 Cas Rdr
set_option maxHeartbeats 1000000
theorem mg_ki (m : Mg) : m.cells[0]? = some (.int .i64 m.ki) := rfl
theorem mg_sg (m : Mg) : m.cells[42]? = some (str m.sg) := rfl
theorem mg_ask (m : Mg) : (m.cells.drop 1).take 9 = m.ask.cells := rfl
theorem mg_bid (m : Mg) : (m.cells.drop 10).take 16 = m.bid.cells := rfl
theorem mg_inv (m : Mg) : (m.cells.drop 26).take 7 = m.inv.cells := rfl
theorem mg_var (m : Mg) : (m.cells.drop 33).take 5 = varc m.va m.ex := rfl
theorem mg_fee (m : Mg) : (m.cells.drop 38).take 4 = wv m.fee := rfl
theorem mg_bro (m : Mg) : m.cells[10]? = some (.int .i64 m.bid.ro) := rfl
theorem mg_bask (m : Mg) : (m.cells.drop 11).take 9 = m.bid.ask.cells := rfl
theorem mg_bam (m : Mg) : (m.cells.drop 20).take 4 = wv m.bid.am := rfl
theorem mg_bun (m : Mg) : m.cells[24]? = some (.int .i64 m.bid.un) := rfl
theorem mg_bsg (m : Mg) : m.cells[25]? = some (str m.bid.sg) := rfl
theorem bd_ro (b : Bd) : b.cells[0]? = some (.int .i64 b.ro) := rfl
theorem bd_ask (b : Bd) : (b.cells.drop 1).take 9 = b.ask.cells := rfl
theorem bd_aam (b : Bd) : (b.cells.drop 5).take 4 = wv b.ask.am := rfl
theorem bd_am (b : Bd) : (b.cells.drop 10).take 4 = wv b.am := rfl
theorem bd_un (b : Bd) : b.cells[14]? = some (.int .i64 b.un) := rfl
theorem bd_sg (b : Bd) : b.cells[15]? = some (str b.sg) := rfl
/-- May a bid be? -/
def bidE (b : Bd) : Int := if b.am = 0 ∨ 0 < wcmp b.am b.ask.am ∨ askE b.ask ≠ 0 ∨ b.un < 0 ∨ 1099511627776 < b.un ∨ (1024 : Int) < b.sg.length then 39 else invE b.ask.us rr8 b.ro b.ask.se b.ask.re b.ask.to b.ask.id
theorem bid_y {b : Bd} (h : b.am = 0 ∨ 0 < wcmp b.am b.ask.am ∨ askE b.ask ≠ 0 ∨ b.un < 0 ∨ 1099511627776 < b.un ∨ (1024 : Int) < b.sg.length) : bidE b = 39 := if_pos h
theorem bid_n {b : Bd} (h : ¬ (b.am = 0 ∨ 0 < wcmp b.am b.ask.am ∨ askE b.ask ≠ 0 ∨ b.un < 0 ∨ 1099511627776 < b.un ∨ (1024 : Int) < b.sg.length)) : bidE b = invE b.ask.us rr8 b.ro b.ask.se b.ask.re b.ask.to b.ask.id := if_neg h
/-- May a message be? -/
def mgE (m : Mg) : Int := if m.ki = 1 then askE m.ask else if m.ki = 2 then bidE m.bid else if m.ki = 3 then (if invE m.inv.us m.inv.rt m.inv.ro m.inv.se m.inv.re m.inv.to m.inv.id = 0 then (if sndE m.va m.ex = 0 then (if (1024 : Int) < m.sg.length then 5 else 0) else sndE m.va m.ex) else invE m.inv.us m.inv.rt m.inv.ro m.inv.se m.inv.re m.inv.to m.inv.id) else 12
section
variable {m : Mg}
theorem mgE_1 (h : m.ki = 1) : mgE m = askE m.ask := if_pos h
theorem mgE_2 (h : m.ki = 2) : mgE m = bidE m.bid := (if_neg (by omega)).trans (if_pos h)
theorem mgE_0 (h : ¬ m.ki = 1) (h2 : ¬ m.ki = 2) (h3 : ¬ m.ki = 3) : mgE m = 12 := (if_neg h).trans ((if_neg h2).trans (if_neg h3))
theorem mgE_3 (h : m.ki = 3) : mgE m = if invE m.inv.us m.inv.rt m.inv.ro m.inv.se m.inv.re m.inv.to m.inv.id = 0 then (if sndE m.va m.ex = 0 then (if (1024 : Int) < m.sg.length then 5 else 0) else sndE m.va m.ex) else invE m.inv.us m.inv.rt m.inv.ro m.inv.se m.inv.re m.inv.to m.inv.id := (if_neg (by omega)).trans ((if_neg (by omega)).trans (if_pos h))
end
theorem check_bid (b : Bd) (hb : BdIn b) (w : World) (hw : True) : CSpec Try.prog 74 [.agg b.cells.toArray] [] w (Gives (.int .i64 (bidE b))) := by
  refine spec_own0 Try.func74 rfl Try.ntmps74 rfl (l0 := [(0, .agg b.cells.toArray)]) rfl ?_
  repeat' first
    | (refine J.qv ?_; (with_reducible apply exq); focus (first
      | ((with_reducible apply Qv.eqlA); exact rfl; exact rfl; kernel_rfl; (exact fun w => weq b.am 0 ⟨hb.am, wd_0⟩ w))
      | ((with_reducible apply Qv.lenS8); exact rfl)))
    | (refine J.qr ?_; (with_reducible apply exq); focus (first
      | ((with_reducible apply Qr.load1); exact rfl; (focus ((repeat (first | with_reducible exact In.here | with_reducible apply In.there)); done)); (with_reducible first | exact bd_ro _ | exact bd_un _ | exact bd_sg _ | exact mg_ki _ | exact mg_sg _))
      | ((with_reducible apply Qr.loadN); exact rfl; (focus ((repeat (first | with_reducible exact In.here | with_reducible apply In.there)); done)); (with_reducible first | exact bd_ask _ | exact bd_aam _ | exact bd_am _ | exact mg_ask _ | exact mg_bid _ | exact mg_inv _ | exact mg_var _); (with_reducible first | exact ak_len _ | exact wv_length _ | exact bd_len _ | exact iv_len _ | exact vr_len _ _))))
    | ((with_reducible apply J.givesP (Cmp.cmp b.am b.ask.am)); exact rfl; exact rfl; (exact ⟨hb.am, hb.ask.am⟩))
    | ((with_reducible apply J.givesR (check_ask b.ask hb.ask)); exact rfl; exact rfl; focus (exact RH.true_))
    | ((with_reducible apply J.givesR (stand_ b.ask b.ro)); exact rfl; exact rfl; focus (exact RH.true_))
    | ((with_reducible apply J.givesW (dealCheck b.ask.us rr8 b.ro b.ask.se b.ask.re b.ask.to b.ask.id)); exact rfl; exact rfl)
    | refine J.one ?_
    | refine J.loudS ?_
    | (refine J.loudQ ?_; intro _ _)
    | (refine J.loudB ?_; intro _)
    | (with_reducible apply J.list)
    | ((with_reducible apply J.gsplit); exact rfl; exact rfl)
    | ((with_reducible first | apply J.cond | apply JC.cond); exact rfl)
    | (intro h; exfalso; (first | (simp at h; done) | (simp at h; omega) | omega))
    | (intro h; (try simp only [decide_eq_true_eq, decide_eq_false_iff_not, beq_iff_eq, beq_eq_false_iff_ne, Bool.not_eq_true', Bool.not_eq_false', bne_iff_ne, bne_eq_false_iff_eq, ne_eq, ge_iff_le, gt_iff_lt] at h))
    | (with_reducible apply J.gave')
    | ((with_reducible apply J.kept'); rotate_left; (repeat (first | (with_reducible exact Outs.nil) | ((with_reducible apply Outs.cons); (repeat (first | with_reducible exact Out.here | with_reducible apply Out.there))))))
  all_goals
    first
    | (simp only [retv]; rw [bid_y (by omega)]; done)
    | (simp only [retv]; rw [bid_n (by omega)]; done)
    | (trace_state; fail)
theorem check_mg (m : Mg) (hm : MgIn m) (w : World) (hw : True) : CSpec Try.prog 44 [.agg m.cells.toArray] [] w (Gives (.int .i64 (mgE m))) := by
  refine spec_own0 Try.func44 rfl Try.ntmps44 rfl (l0 := [(0, .agg m.cells.toArray)]) rfl ?_
  repeat' first
    | (refine J.qv ?_; (with_reducible apply exq); focus (first
      | ((with_reducible apply Qv.lenS8); exact rfl)))
    | (refine J.qr ?_; (with_reducible apply exq); focus (first
      | ((with_reducible apply Qr.load1); exact rfl; (focus ((repeat (first | with_reducible exact In.here | with_reducible apply In.there)); done)); (with_reducible first | exact bd_ro _ | exact bd_un _ | exact bd_sg _ | exact mg_ki _ | exact mg_sg _))
      | ((with_reducible apply Qr.loadN); exact rfl; (focus ((repeat (first | with_reducible exact In.here | with_reducible apply In.there)); done)); (with_reducible first | exact bd_ask _ | exact bd_aam _ | exact bd_am _ | exact mg_ask _ | exact mg_bid _ | exact mg_inv _ | exact mg_var _); (with_reducible first | exact ak_len _ | exact wv_length _ | exact bd_len _ | exact iv_len _ | exact vr_len _ _))))
    | ((with_reducible apply J.givesR (check_ask m.ask hm.ask)); exact rfl; exact rfl; focus (exact RH.true_))
    | ((with_reducible apply J.givesR (check_bid m.bid hm.bid)); exact rfl; exact rfl; focus (exact RH.true_))
    | ((with_reducible apply J.givesW (dealCheck m.inv.us m.inv.rt m.inv.ro m.inv.se m.inv.re m.inv.to m.inv.id)); exact rfl; exact rfl)
    | ((with_reducible apply J.givesW (sound m.va m.ex hm.va)); exact rfl; exact rfl)
    | refine J.one ?_
    | refine J.loudS ?_
    | (refine J.loudQ ?_; intro _ _)
    | (refine J.loudB ?_; intro _)
    | (with_reducible apply J.list)
    | ((with_reducible apply J.gsplit); exact rfl; exact rfl)
    | ((with_reducible first | apply J.cond | apply JC.cond); exact rfl)
    | (intro h; exfalso; (first | (simp at h; done) | (simp at h; omega) | omega))
    | (intro h; (try simp only [decide_eq_true_eq, decide_eq_false_iff_not, beq_iff_eq, beq_eq_false_iff_ne, Bool.not_eq_true', Bool.not_eq_false', bne_iff_ne, bne_eq_false_iff_eq, ne_eq, ge_iff_le, gt_iff_lt] at h))
    | (with_reducible apply J.gave')
    | ((with_reducible apply J.kept'); rotate_left; (repeat (first | (with_reducible exact Outs.nil) | ((with_reducible apply Outs.cons); (repeat (first | with_reducible exact Out.here | with_reducible apply Out.there))))))
  all_goals
    first
    | (simp only [retv]; rw [mgE_1 (by with_reducible assumption)]; done)
    | (simp only [retv]; rw [mgE_2 (by with_reducible assumption)]; done)
    | (simp only [retv]; rw [mgE_0 (by with_reducible assumption) (by with_reducible assumption) (by with_reducible assumption)]; done)
    | (simp only [retv]; rw [mgE_3 (by with_reducible assumption), if_neg (by with_reducible assumption)]; done)
    | (simp only [retv]; rw [mgE_3 (by with_reducible assumption), if_pos (by with_reducible assumption), if_neg (by with_reducible assumption)]; done)
    | (simp only [retv]; rw [mgE_3 (by with_reducible assumption), if_pos (by with_reducible assumption), if_pos (by with_reducible assumption), if_pos (by omega)]; done)
    | (simp only [retv]; rw [mgE_3 (by with_reducible assumption), if_pos (by with_reducible assumption), if_pos (by with_reducible assumption), if_neg (by omega)]; done)
    | (trace_state; fail)
end Go.Proofs.Ytfcaeifpclpnoaa.Mch
