/-
  The reference automaton: locks. No conditions.
-/
import Derived.Test.YtljbedladifgmaaGreatQR12b
import Derived.Test.YtljbedladifgmaaGreatQR4b
namespace Go.Proofs.YtljbedladifgmaaGreat.R12c
open Go Go.RowKit Eng
set_option linter.unusedVariables false
set_option maxRecDepth 100000
set_option linter.unusedSimpArgs false
open Wide Purse Tx Sha Ss Esc Vau Lck Do Prep Ful Doo Tri App Inn Low Gene Pln Plx Sam Alv Deal Mss Ots Hash Bytes R6 R6b Lks R12 R12b R4 R4b
set_option maxHeartbeats 1000000
/-- A transaction of a lock, as it may be. -/
structure T4 (t : Tx) : Prop where
  va : Wd t.va
  fee : Wd t.fee
  f0 : 0 ≤ t.fr
  f1 : t.fr ≤ 7
  us0 : 0 ≤ t.us
  us1 : t.us ≤ 1
  ro0 : 2 ≤ t.ro
  ro1 : t.ro ≤ 3
  se0 : 0 ≤ t.se
  se1 : t.se ≤ 1
  re0 : 0 ≤ t.re
  re1 : t.re ≤ 1
  to0 : 0 ≤ t.to
  to1 : t.to ≤ 7
  ex0 : 0 ≤ t.ex
  ex1 : t.ex ≤ 1099511627776
theorem inv_at (t : Tx) : (t.cells.drop 8).take 7 = invc t.us t.rt t.ro t.se t.re t.to t.id := rfl
theorem inv_len (us : Int) (rt : List UInt8) (ro se re to : Int) (id : List UInt8) : (invc us rt ro se re to id).length = 7 := rfl
theorem var_at (t : Tx) : (t.cells.drop 15).take 5 = varc t.va t.ex := rfl
theorem var_len (va ex : Int) : (varc va ex).length = 5 := rfl
theorem payF_l (act : Int) (k : List UInt8) (fee : Int) : (payF act k fee).length ≤ 77 := payF_le act k fee
theorem rsigned (t : Tx) (act : Int) (w : World) (hw : Wd t.fee) : CSpec Tryz.prog 92 [.agg t.cells.toArray, .int .i64 act] [] w (Gives (.bool (sgF t act))) := by
  have hp := payF_l act (keyT t) t.fee
  refine spec_own0 Tryz.func92 rfl Tryz.ntmps92 rfl (l0 := [(0, .agg t.cells.toArray), (1, .int .i64 act)]) rfl ?_
  repeat' first
    | (refine J.qr ?_; (with_reducible apply exq); focus (first
      | ((with_reducible apply Qr.loadN); exact rfl; (focus ((repeat (first | with_reducible exact In.here | with_reducible apply In.there)); done)); (first | exact tx_am t | exact tx_va t | exact tx_fee t); with_reducible exact wv_length _)
      | ((with_reducible apply Qr.loadN); exact rfl; (focus ((repeat (first | with_reducible exact In.here | with_reducible apply In.there)); done)); (first | exact inv_at t | exact var_at t); (first | exact inv_len _ _ _ _ _ _ _ | exact var_len _ _))
      | ((with_reducible apply Qr.load1); exact rfl; (focus ((repeat (first | with_reducible exact In.here | with_reducible apply In.there)); done)); exact rfl)))
    | (refine J.qo ?_; refine ⟨?_, ?_⟩; focus (first
      | ((with_reducible apply Qr.loadN); exact rfl; (focus ((repeat (first | with_reducible exact In.here | with_reducible apply In.there)); done)); (first | exact tx_am t | exact tx_va t | exact tx_fee t); with_reducible exact wv_length _)
      | ((with_reducible apply Qr.loadN); exact rfl; (focus ((repeat (first | with_reducible exact In.here | with_reducible apply In.there)); done)); (first | exact inv_at t | exact var_at t); (first | exact inv_len _ _ _ _ _ _ _ | exact var_len _ _))
      | ((with_reducible apply Qr.load1); exact rfl; (focus ((repeat (first | with_reducible exact In.here | with_reducible apply In.there)); done)); exact rfl)))
    | ((with_reducible apply J.givesR (rkey t.us t.rt t.ro t.se t.re t.to t.id)); exact rfl; exact rfl; focus (exact RH.true_))
    | ((with_reducible apply J.freshR (rpayload act (keyT t) t.fee)); exact rfl; exact rfl; (focus (exact RH.of hw)); intro _ _)
    | ((with_reducible apply J.givesR (rverify _ _ _ _ (payF act (keyT t) t.fee) _)); exact rfl; exact rfl; focus (exact RH.and (RH.row (by (repeat (first | with_reducible exact In.here | with_reducible apply In.there)))) (RH.of ⟨rfl, by omega⟩)))
    | refine J.one ?_
    | refine J.loudS ?_
    | (refine J.loudQ ?_; intro _ _)
    | (refine J.loudB ?_; intro _)
    | (with_reducible apply J.list)
    | ((with_reducible apply J.draw (id := 1) [0, 1, 3, 0, 0, 16, 48, 0, 128, 504, 0, 1024, 4095, 8191, 16383, 16383, 32767, 131071] (.p 0 (.p 1 (.q 2 (.p 3 (.p 4 (.q 5 (.p 7 (.q 8 (.p 10 (.q 11 (.x 6 (.x 9 (.x 12 (.p 13 (.p 14 (.p 15 (.p 16 (.p 17 .nil))))) .none) .none) .none))))))))))) (by kernel_rfl) ?_ (by kernel_rfl) ?_); (repeat (with_reducible first | exact PanicFree.body | exact PanicFree.np | exact PanicFree.lvS | apply PanicFree.then_ | apply PanicFree.blk)))
    | ((with_reducible apply J.pl2); exact rfl; (first | exact Gd.none | ((with_reducible apply Gd.on); exact rfl; exact rfl)); (first | exact pend_au | fail))
    | ((with_reducible apply J.pl2_off); exact rfl; ((with_reducible apply Gd.off); exact rfl; exact rfl; exact rfl); exact rfl; (first | exact pend_au | fail))
    | ((with_reducible apply J.pl2_off_none); exact rfl; ((with_reducible apply Gd.off); exact rfl; exact rfl; exact rfl); (first | exact pend_au | fail))
    | ((with_reducible first | apply J.psplit0 | apply J.psplit1 | apply J.psplit2); exact rfl; exact rfl; exact rfl)
    | (with_reducible exact J.pl_none)
    | ((with_reducible apply J.gsplit); exact rfl; exact rfl)
    | ((with_reducible first | apply J.cond | apply JC.cond); exact rfl)
    | (intro h; exfalso; fail)
    | (intro h; (try simp only [decide_eq_true_eq, decide_eq_false_iff_not, beq_iff_eq, beq_eq_false_iff_ne, Bool.not_eq_true', Bool.not_eq_false', bne_iff_ne, bne_eq_false_iff_eq, ne_eq, ge_iff_le, gt_iff_lt] at h))
    | (with_reducible apply J.gave')
    | ((with_reducible apply J.kept'); rotate_left; (first | exact outs_au | fail))
  all_goals (rfl)
/-- The lock of a transaction, or why there is none. -/
def opF (L : List Lk) (t : Tx) : Int × Int := if lockE L t = 0 then (plc L (keyT t), 0) else (0, lockE L t)
theorem opF_a {L : List Lk} {t : Tx} (h : plc L (keyT t) < 0) : opF L t = (0, 32) := by
  have e : lockE L t = 32 := by unfold lockE; rw [if_neg (by omega)]
  unfold opF
  rw [e, if_neg (by decide)]
section
variable {L : List Lk} {t : Tx} {k : Nat} (hk : plc L (keyT t) = (k : Int))
include hk
theorem opF_b (h : (L.getD k lk0).st ≠ 1) : opF L t = (0, 32) := by
  have e : lockE L t = 32 := by unfold lockE; rw [hk, if_pos (by omega), Int.toNat_natCast, if_neg h]
  unfold opF
  rw [e, if_neg (by decide)]
theorem opF_c (h : (L.getD k lk0).st = 1) (h2 : (L.getD k lk0).dig ≠ digT t) : opF L t = (0, 33) := by
  have e : lockE L t = 33 := by unfold lockE; rw [hk, if_pos (by omega), Int.toNat_natCast, if_pos h, if_neg h2]
  unfold opF
  rw [e, if_neg (by decide)]
theorem opF_d (h : (L.getD k lk0).st = 1) (h2 : (L.getD k lk0).dig = digT t) : opF L t = ((k : Int), 0) := by
  have e : lockE L t = 0 := by unfold lockE; rw [hk, if_pos (by omega), Int.toNat_natCast, if_pos h, if_pos h2]
  unfold opF
  rw [e, if_pos rfl, hk]
end
theorem ropn (s : SS) (ao : Option Addr) (n cap : Nat) (L : List Lk) (t : Tx) (w : World) (hw : Rd w ao (lcs L) ∧ n = L.length ∧ L.length ≤ maxLen ∧ Wd t.va) : CSpec Tryz.prog 91 [.agg (s.cells (.slice ao n cap)).toArray, .agg t.cells.toArray] [] w (Gives (.tuple #[.int .i64 (opF L t).1, .int .i64 (opF L t).2])) := by
  obtain ⟨hL, rfl, hm, hva⟩ := hw
  obtain ⟨k, hk0⟩ : ∃ k, k = (plc L (keyT t)).toNat := ⟨_, rfl⟩
  have hk : ¬ plc L (keyT t) < 0 → plc L (keyT t) = (k : Int) ∧ k < L.length := fun h => by
    have h9 : plc L (keyT t) < L.length := findI_lt
    omega
  have hao : ¬ plc L (keyT t) < 0 → ao.isSome = true := fun h => hL.isSome (by
    intro e
    have h8 := lcs_length L
    have h9 := hk h
    rw [e] at h8
    simp at h8
    omega)
  refine spec_own0 Tryz.func91 rfl Tryz.ntmps91 rfl (l0 := [(0, .agg (s.cells (.slice ao L.length cap)).toArray), (1, .agg t.cells.toArray)]) rfl ?_
  repeat' first
    | (refine J.qv ?_; (with_reducible apply exq); focus (first
      | ((with_reducible apply Qv.fieldAdd); exact rfl)
      | ((with_reducible apply Qv.indexSrcs (k := k)); exact rfl; exact rfl; (focus (have h7 := hk (by assumption); omega)); (focus (have h7 := hk (by assumption); omega)); exact hao (by assumption))))
    | (refine J.qr ?_; (with_reducible apply exq); focus (first
      | ((with_reducible apply Qr.ldLv); exact rfl; (focus ((repeat (first | with_reducible exact In.here | with_reducible apply In.there)); done)))
      | ((with_reducible apply Qr.loadN); exact rfl; (focus ((repeat (first | with_reducible exact In.here | with_reducible apply In.there)); done)); (first | exact inv_at t | exact var_at t); (first | exact inv_len _ _ _ _ _ _ _ | exact var_len _ _))
      | ((with_reducible apply Qr.rd1 (C := lcs L) (j := k * 3 + 2)); exact rfl; exact RH.old hL; exact lcs_get (hk (by assumption)).2 (by decide))
      | ((with_reducible apply Qr.rd1 (C := lcs L) (j := k * 3 + 1)); exact rfl; exact RH.old hL; exact lcs_get (hk (by assumption)).2 (by decide))))
    | (refine J.qo ?_; refine ⟨?_, ?_⟩; focus (first
      | ((with_reducible apply Qr.ldLv); exact rfl; (focus ((repeat (first | with_reducible exact In.here | with_reducible apply In.there)); done)))
      | ((with_reducible apply Qr.loadN); exact rfl; (focus ((repeat (first | with_reducible exact In.here | with_reducible apply In.there)); done)); (first | exact inv_at t | exact var_at t); (first | exact inv_len _ _ _ _ _ _ _ | exact var_len _ _))
      | ((with_reducible apply Qr.rd1 (C := lcs L) (j := k * 3 + 2)); exact rfl; exact RH.old hL; exact lcs_get (hk (by assumption)).2 (by decide))
      | ((with_reducible apply Qr.rd1 (C := lcs L) (j := k * 3 + 1)); exact rfl; exact RH.old hL; exact lcs_get (hk (by assumption)).2 (by decide))))
    | ((with_reducible apply J.givesR (rkey t.us t.rt t.ro t.se t.re t.to t.id)); exact rfl; exact rfl; focus (exact RH.true_))
    | ((with_reducible apply J.givesR (rplace _ _ _ L (keyT t))); exact rfl; exact rfl; focus (exact RH.and (RH.old hL) (RH.of ⟨rfl, hm⟩)))
    | ((with_reducible apply J.givesR (rdigest t.us t.rt t.ro t.se t.re t.to t.id t.va t.ex)); exact rfl; exact rfl; focus (exact RH.of hva))
    | refine J.one ?_
    | refine J.loudS ?_
    | (refine J.loudQ ?_; intro _ _)
    | (refine J.loudB ?_; intro _)
    | (with_reducible apply J.list)
    | ((with_reducible apply J.draw (id := 1) [0, 1, 0, 4, 12, 31, 63] (.p 0 (.q 1 (.p 2 (.q 3 (.x 4 (.x 5 (.p 6 .nil) .none) .none))))) (by kernel_rfl) ?_ (by kernel_rfl) ?_); (repeat (with_reducible first | exact PanicFree.body | exact PanicFree.np | exact PanicFree.lvS | apply PanicFree.then_ | apply PanicFree.blk)))
    | ((with_reducible apply J.draw (id := 4) [0, 1, 0, 7, 15, 31, 0, 64, 0, 256, 960, 2047] (.p 0 (.q 1 (.p 2 (.p 3 (.p 4 (.q 5 (.p 6 (.q 7 (.p 8 (.q 9 (.x 10 (.p 11 .nil) .none))))))))))) (by kernel_rfl) ?_ (by kernel_rfl) ?_); (repeat (with_reducible first | exact PanicFree.body | exact PanicFree.np | exact PanicFree.lvS | apply PanicFree.then_ | apply PanicFree.blk)))
    | ((with_reducible apply J.pl2); exact rfl; (first | exact Gd.none | ((with_reducible apply Gd.on); exact rfl; exact rfl)); (first | exact pend_au | fail))
    | ((with_reducible apply J.pl2_off); exact rfl; ((with_reducible apply Gd.off); exact rfl; exact rfl; exact rfl); exact rfl; (first | exact pend_au | fail))
    | ((with_reducible apply J.pl2_off_none); exact rfl; ((with_reducible apply Gd.off); exact rfl; exact rfl; exact rfl); (first | exact pend_au | fail))
    | ((with_reducible first | apply J.psplit0 | apply J.psplit1 | apply J.psplit2); exact rfl; exact rfl; exact rfl)
    | (with_reducible exact J.pl_none)
    | ((with_reducible apply J.gsplit); exact rfl; exact rfl)
    | ((with_reducible first | apply J.cond | apply JC.cond); exact rfl)
    | (intro h; exfalso; fail)
    | (intro h; (try simp only [decide_eq_true_eq, decide_eq_false_iff_not, beq_iff_eq, beq_eq_false_iff_ne, Bool.not_eq_true', Bool.not_eq_false', bne_iff_ne, bne_eq_false_iff_eq, ne_eq, ge_iff_le, gt_iff_lt] at h))
    | (with_reducible apply J.gave')
    | ((with_reducible apply J.kept'); rotate_left; (first | exact outs_au | fail))
  all_goals
    first
    | (simp only [retv]; rw [opF_a (by assumption)]; done)
    | (simp only [retv]; rw [opF_b (hk (by assumption)).1 (by assumption)]; done)
    | (simp only [retv]; rw [opF_c (hk (by assumption)).1 (by assumption) (by assumption)]; done)
    | (simp only [retv]; rw [opF_d (hk (by assumption)).1 (by assumption) (by assumption), (hk (by assumption)).1]; done)
    | (trace_state; fail)
theorem rended (s : SS) (ao : Option Addr) (n cap : Nat) (L : List Lk) (k : Nat) (x : Int) (w : World) (hw : Rd w ao (lcs L) ∧ n = L.length ∧ k < L.length ∧ L.length ≤ maxLen ∧ L.length * 40 ≤ 140737488355328) : CSpec Tryz.prog 94 [.agg (s.cells (.slice ao n cap)).toArray, .int .i64 (k : Int), .int .i64 x] [] w (StV 99 s (stL L k x)) := by
  obtain ⟨hL, rfl, hk, hm, hb⟩ := hw
  refine spec_own0 Tryz.func94 rfl Tryz.ntmps94 rfl (l0 := [(0, .agg (s.cells (.slice ao L.length cap)).toArray), (1, .int .i64 (k : Int)), (2, .int .i64 x)]) rfl ?_
  repeat' first
    | ((with_reducible apply J.ret); exact rfl; exact rfl; (repeat (first | (with_reducible exact Res.nil) | ((with_reducible apply Res.tmp); exact rfl) | ((with_reducible apply Res.full); exact rfl; (focus ((repeat (first | with_reducible exact In.here | with_reducible apply In.there)); done)); (with_reducible exact SS.len _ _)) | ((with_reducible apply Res.cell1); exact rfl; (repeat (first | with_reducible exact In.here | with_reducible apply In.there)); exact rfl))); exact rfl)
    | (refine J.qv ?_; (with_reducible apply exq); focus (first
      | ((with_reducible apply Qv.fieldAdd); exact rfl)
      | ((with_reducible apply Qv.indexSrcs (k := k)); exact rfl; exact rfl; (focus omega); (focus omega); exact hq1)))
    | (refine J.qr ?_; (with_reducible apply exq); focus (first
      | ((with_reducible apply Qr.ldLv); exact rfl; (focus ((repeat (first | with_reducible exact In.here | with_reducible apply In.there)); done)))
      | ((with_reducible apply Qr.loadFull); exact rfl; (focus ((repeat (first | with_reducible exact In.here | with_reducible apply In.there)); done)); (with_reducible first | exact wv_length _ | exact wvs_len16 _ | exact SS.len _ _))))
    | ((with_reducible apply J.buildRow0); exact rfl; intro _)
    | ((with_reducible apply J.appendR (news := lcs L)); exact rfl; exact rfl; (repeat (first | with_reducible exact Out.here | with_reducible apply Out.there)); exact rfl; exact RH.old hL; exact lcs_length L; exact lcs_ones L; exact rfl; exact rfl; (omega); (omega); intro q8 hq8; ((with_reducible apply J.reR (E := 99) (v := .slice q8.1 (0 + L.length) q8.2) (n := 0 + L.length) (C := [] ++ lcs L) (v' := .slice q8.1 L.length q8.2) (n' := L.length) (C' := lcs L)); (repeat (first | with_reducible exact Upd.here | with_reducible apply Upd.there)); (rw [Nat.zero_add]); (rw [Nat.zero_add]); rfl; (simp only [Nat.zero_add]); (with_reducible apply J.someX (ao := q8.1) (n := L.length) (E := 99) (C := lcs L) (sz := 3) (by (repeat (first | with_reducible exact In.here | with_reducible apply In.there))) (by decide)); intro hq0; have hq1 := hq0 (by omega)))
    | ((with_reducible apply J.stLv); exact rfl; exact rfl; (repeat (first | with_reducible exact Upd.here | with_reducible apply Upd.there)))
    | ((with_reducible apply J.storeFull); exact rfl; exact rfl; (repeat (first | with_reducible exact Upd.here | with_reducible apply Upd.there)); (with_reducible exact SS.len _ _); (focus (first | (with_reducible exact SS.len _ _) | kernel_rfl)); with_reducible exact SS.ones _ _ _ _)
    | ((with_reducible apply J.cellR); exact rfl; exact rfl; exact rfl; (repeat (first | with_reducible exact Upd.here | with_reducible apply Upd.there)); (rw [lcs_length]; omega); exact lcs_set hk _)
    | refine J.one ?_
    | refine J.loudS ?_
    | (refine J.loudQ ?_; intro _ _)
    | (refine J.loudB ?_; intro _)
    | (with_reducible apply J.list)
    | ((with_reducible apply J.gsplit); exact rfl; exact rfl)
    | ((with_reducible first | apply J.cond | apply JC.cond); exact rfl)
    | (intro h; exfalso; fail)
    | (intro h; (try simp only [decide_eq_true_eq, decide_eq_false_iff_not, beq_iff_eq, beq_eq_false_iff_ne, Bool.not_eq_true', Bool.not_eq_false', bne_iff_ne, bne_eq_false_iff_eq, ne_eq, ge_iff_le, gt_iff_lt] at h))
    | (with_reducible apply J.gave')
    | ((with_reducible apply J.kept'); rotate_left; (first | exact outs_au | fail))
  all_goals first
    | ((with_reducible apply J.endSt); (first | exact outs_au | fail); (exact (stL_length _ _ _).symm); exact rfl; (simp only [retv, stL_length]); exact rfl; exact rfl)
    | (trace_state; fail)
end Go.Proofs.YtljbedladifgmaaGreat.R12c
