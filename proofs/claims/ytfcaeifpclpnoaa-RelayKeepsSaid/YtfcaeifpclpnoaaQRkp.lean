/-
  What each of the laws of a relayer begins with. No conditions.
-/
import Derived.Test.YtfcaeifpclpnoaaQRtp
namespace Go.Proofs.Ytfcaeifpclpnoaa.Rkp
open Go Go.RowKit Eng
set_option linter.unusedVariables false
set_option maxRecDepth 100000
set_option linter.unusedSimpArgs false
open Sha Iter Hash Bytes Hsum Wide Tx Field Deal Msg Fld Fld2 Unw Fld3 Cas Rdr Mch Mpt Mrd Ots Mrt Sgn Rly Rly2 Rtp
set_option maxHeartbeats 2000000
theorem root_c (s R : List UInt8) (h : rootF s = R) (w : World) (hw : s.length ≤ 1000) : CSpec Try.prog 27 [str s] [] w (Gives (str R)) := h ▸ root_ s w hw
theorem key_c (R k : List UInt8) (h : keyF 1 R 2 0 0 6 [100, 101, 97, 108] = k) (w : World) (hw : True) : CSpec Try.prog 73 [.agg (invc 1 R 2 0 0 6 [100, 101, 97, 108]).toArray] [] w (Gives (str k)) := h ▸ key_ 1 R 2 0 0 6 [100, 101, 97, 108] w hw
theorem pay_c (k t : List UInt8) (h : payF 1 k 1 = t) (w : World) (hw : k.length ≤ 140737488351232) : CSpec Try.prog 72 [.int .i64 1, str k, .agg (wv 1).toArray] [] w (Fresh 5 1 t.length (bcs t) []) := h ▸ payload_ 1 k 1 w ⟨by decide, hw⟩
theorem sgn_c (t S : List UInt8) (h : sig1 [117] t = S) (ao : Option Addr) (n cap : Nat) (w : World) (hw : Rd w ao (bcs t) ∧ n = t.length ∧ t.length ≤ 1099511627776) : CSpec Try.prog 71 [.agg #[str [117], .int .i64 1], .slice ao n cap] [] w (Gives (.tuple #[str S, .agg #[str [117], .int .i64 2], .int .i64 0])) := h ▸ sign_1 [117] ao n cap t w ⟨hw.1, hw.2.1, hw.2.2, by decide⟩
/-- A release. -/
def relM (R S : List UInt8) : Mg := ⟨3, ak0, bd0, ⟨1, R, 2, 0, 0, 6, [100, 101, 97, 108]⟩, 50, 150, 1, S⟩
theorem wd_k {n : Int} (h0 : 0 ≤ n) (h1 : n ≤ 10000) : Wd n := by unfold Wd; omega
theorem relM_in {R S : List UInt8} (hR : R.length = 8) (hS : S.length = 145) : MgIn (relM R S) := ⟨i64_of (x := 3) (by decide) (by decide), ak0_in, bd0_in, ⟨i64_of (x := 1) (by decide) (by decide), by show R.length ≤ _; unfold maxLen; omega, i64_of (x := 2) (by decide) (by decide), i64_0, i64_0, i64_of (x := 6) (by decide) (by decide), by show (4 : Nat) ≤ _; unfold maxLen; omega⟩, wd_k (n := 50) (by decide) (by decide), i64_of (x := 150) (by decide) (by decide), wd_k (n := 1) (by decide) (by decide), by show S.length ≤ _; unfold maxLen; omega⟩
theorem relM_E {R S : List UInt8} (hR : R.length = 8) (hS : S.length = 145) : mgE (relM R S) = 0 := by
  rw [mgE_3 rfl]
  have h1 : invE 1 R 2 0 0 6 [100, 101, 97, 108] = 0 := by unfold invE; rw [hR]; decide
  show (if invE 1 R 2 0 0 6 [100, 101, 97, 108] = 0 then (if sndE 50 150 = 0 then (if (1024 : Int) < S.length then (5 : Int) else 0) else sndE 50 150) else invE 1 R 2 0 0 6 [100, 101, 97, 108]) = 0
  rw [if_pos h1, if_pos (by decide), if_neg (by omega)]
theorem pay_len (k t : List UInt8) (h : payF 1 k 1 = t) : t.length ≤ 77 := h ▸ (by
  unfold payF
  split
  · rename_i h1
    rw [payB_length, h1.2]
    decide
  · exact Nat.zero_le _)
theorem key_len (R k : List UInt8) (h : keyF 1 R 2 0 0 6 [100, 101, 97, 108] = k) : k.length ≤ 32 := h ▸ (by
  rw [keyF_length]
  split <;> decide)
/-- What a release is. -/
def RelR : Ending → List Asrt → Prop := fun e H => ∃ m : Mg, (MgIn m ∧ m.ki = 3 ∧ mgE m = 0 ∧ m.fee = 1) ∧ ∃ q : Option Addr × Nat, (mgB m).length ≤ q.2 ∧ e = .returned (.slice q.1 (mgB m).length q.2) ∧ H = [row (.slice q.1 (mgB m).length q.2) 5 1 (mgB m).length (bcs (mgB m))]
section
variable {P : Program} {c : Cx} {lt : TL} {H R : List Asrt} {Q : Exit → Act → World → Prop} {X : Act → World → Prop}
variable {ty : TypeId} {pos : String} {af : Array Edge} {d : Nat}
theorem J.relE {f : Nat} [i : Eng.Enters P f] {xs : List Operand} {ts : Array TypeId} {vs : List Value} (hS : ∀ w, CSpec P f vs [] w RelR) (hd : Nat.blt d c.n = true) (hx : evs lt xs = some vs)
    (K : ∀ m : Mg, MgIn m → m.ki = 3 → mgE m = 0 → m.fee = 1 → ∀ q : Option Addr × Nat, (mgB m).length ≤ q.2 → J c ((d, .slice q.1 (mgB m).length q.2) :: lt) (row (.slice q.1 (mgB m).length q.2) 5 1 (mgB m).length (bcs (mgB m)) :: H) X) : J c lt H (OW P Q ⟨some d, .call ⟨.value (.func f), xs.toArray, ts⟩, ty, pos, af, none⟩ X) :=
  J.callS hd hx .nil (fun w s => hS w) (fun v' H3 ⟨m, h0, q, hq, h1, h2⟩ => by
    cases h1; subst h2
    exact K m h0.1 h0.2.1 h0.2.2.1 h0.2.2.2 q hq) (fun ch H3 ⟨m, _, q, _, h1, _⟩ => by cases h1) (fun H3 ⟨m, _, q, _, h1, _⟩ => by cases h1)
theorem J.endRel {m : Mg} {q : Option Addr × Nat} {v : Value} (hm : MgIn m ∧ m.ki = 3 ∧ mgE m = 0 ∧ m.fee = 1) (hq : (mgB m).length ≤ q.2) (hv : v = .slice q.1 (mgB m).length q.2) (ho : Outs [row (.slice q.1 (mgB m).length q.2) 5 1 (mgB m).length (bcs (mgB m))] H R) : J c lt H (fun _ w => ∃ H3, RelR (.returned v) H3 ∧ Sat c.w0 c.own H3 w) := by
  subst hv
  exact J.post (R := RelR) ⟨m, hm, q, hq, rfl, rfl⟩ ho
end
theorem deals_ (R : List UInt8) (hR : rootF [117] = R) (w : World) (hw : True) : CSpec Try.prog 70 [] [] w (Gives (.agg (Iv.cells ⟨1, R, 2, 0, 0, 6, [100, 101, 97, 108]⟩).toArray)) := by
  refine spec_own0 Try.func70 rfl Try.ntmps70 rfl (l0 := []) rfl ?_
  repeat' first
    | (refine J.qv ?_; (with_reducible apply exq); focus (first
      | ((with_reducible apply Qv.buildS (T := 43)); exact rfl; exact (show _ = some (Iv.cells ⟨1, R, 2, 0, 0, 6, [100, 101, 97, 108]⟩) from rfl))))
    | ((with_reducible apply J.storeFull); exact rfl; exact rfl; (repeat (first | with_reducible exact Upd.here | with_reducible apply Upd.there)); (with_reducible first | exact iv_len _ | exact vr_len _ _); (focus (first | (with_reducible exact iv_len _) | kernel_rfl)); (with_reducible first | exact iv_ones _ | exact vr_ones _ _))
    | ((with_reducible apply J.givesR (root_c [117] R hR)); exact rfl; exact rfl; focus (exact RH.of (by decide)))
    | refine J.one ?_
    | refine J.loudS ?_
    | (refine J.loudQ ?_; intro _ _)
    | (refine J.loudB ?_; intro _)
    | (with_reducible apply J.list)
    | ((with_reducible apply J.gsplit); exact rfl; exact rfl)
    | ((with_reducible first | apply J.cond | apply JC.cond); exact rfl)
    | (intro h; exfalso; fail)
    | (intro h; (try simp only [decide_eq_true_eq, decide_eq_false_iff_not, beq_iff_eq, beq_eq_false_iff_ne, Bool.not_eq_true', Bool.not_eq_false', bne_iff_ne, bne_eq_false_iff_eq, ne_eq, ge_iff_le, gt_iff_lt] at h))
    | (with_reducible apply J.gave')
    | ((with_reducible apply J.kept'); rotate_left; (repeat (first | (with_reducible exact Outs.nil) | ((with_reducible apply Outs.cons); (repeat (first | with_reducible exact Out.here | with_reducible apply Out.there))))))
  all_goals (rfl)
theorem release_ (w : World) : CSpec Try.prog 43 [.int .u64 1, .int .i64 1] [] w RelR := by
  obtain ⟨R, hR, hR8⟩ : ∃ R, rootF [117] = R ∧ R.length = 8 := ⟨_, rfl, rootF_length _⟩
  obtain ⟨k, hk⟩ : ∃ k, keyF 1 R 2 0 0 6 [100, 101, 97, 108] = k := ⟨_, rfl⟩
  obtain ⟨t, ht⟩ : ∃ t, payF 1 k 1 = t := ⟨_, rfl⟩
  obtain ⟨S, hS, hS8⟩ : ∃ S, sig1 [117] t = S ∧ S.length = 145 := ⟨_, rfl, sig1_length _ _⟩
  have hkl := key_len R k hk
  have htl := pay_len k t ht
  obtain ⟨m, em⟩ : ∃ m, m = relM R S := ⟨_, rfl⟩
  have hm : MgIn m := em ▸ relM_in hR8 hS8
  have hE : mgE m = 0 := em ▸ relM_E hR8 hS8
  have hc : Mg.cells (relM R S) = m.cells := by rw [em]
  refine spec_own0 Try.func43 rfl Try.ntmps43 rfl (l0 := [(0, .int .u64 1), (1, .int .i64 1)]) rfl ?_
  repeat' first
    | (refine J.qv ?_; (with_reducible apply exq); focus (first
      | ((with_reducible apply Qv.buildS (T := 45)); exact rfl; exact (show _ = some (varc 50 150) from rfl))
      | ((with_reducible apply Qv.buildS (T := 47)); exact rfl; exact (show _ = some m.cells from (congrArg some hc)))))
    | (refine J.qr ?_; (with_reducible apply exq); focus (first
      | ((with_reducible apply Qr.loadFull); exact rfl; (focus ((repeat (first | with_reducible exact In.here | with_reducible apply In.there)); done)); (with_reducible first | exact iv_len _ | exact vr_len _ _))))
    | (refine J.qo ?_; refine ⟨?_, ?_⟩; focus (first
      | ((with_reducible apply Qr.loadFull); exact rfl; (focus ((repeat (first | with_reducible exact In.here | with_reducible apply In.there)); done)); (with_reducible first | exact iv_len _ | exact vr_len _ _))))
    | ((with_reducible apply J.storeFull); exact rfl; exact rfl; (repeat (first | with_reducible exact Upd.here | with_reducible apply Upd.there)); (with_reducible first | exact iv_len _ | exact vr_len _ _); (focus (first | (with_reducible exact iv_len _) | kernel_rfl)); (with_reducible first | exact iv_ones _ | exact vr_ones _ _))
    | ((with_reducible apply J.givesR (deals_ R hR)); exact rfl; exact rfl; focus (exact RH.true_))
    | ((with_reducible apply J.givesR (key_c R k hk)); exact rfl; exact rfl; focus (exact RH.true_))
    | ((with_reducible apply J.freshR (pay_c k t ht)); exact rfl; exact rfl; (focus (exact RH.of (by omega))); intro _ _)
    | ((with_reducible apply J.givesR (sgn_c t S hS _ _ _)); exact rfl; exact rfl; focus (exact RH.and (RH.row (by (repeat (first | with_reducible exact In.here | with_reducible apply In.there)))) (RH.of ⟨rfl, by omega⟩)))
    | ((with_reducible apply J.doneP (mput_ m hm hE)); exact rfl; exact rfl; exact .nil; trivial; intro q8 hq8; (try dsimp only [List.cons_append, List.nil_append]))
    | refine J.one ?_
    | refine J.loudS ?_
    | (refine J.loudQ ?_; intro _ _)
    | (refine J.loudB ?_; intro _)
    | (with_reducible apply J.list)
    | ((with_reducible apply J.draw (id := 4) [0, 1, 0, 4, 0, 28, 63, 127, 255, 255, 255, 0, 2559, 7167, 16383] (.p 0 (.p 1 (.q 2 (.q 4 (.x 3 (.x 5 (.x 6 (.p 7 (.p 8 (.p 9 (.p 10 (.x 11 (.p 12 (.x 13 (.p 14 .nil) .none)) .none))))) (.x 11 (.x 6 (.p 7 (.p 8 (.p 9 (.p 10 (.p 12 (.x 13 (.p 14 .nil) .none)))))) .none) .none)) (.x 11 (.x 5 (.x 6 (.p 7 (.p 8 (.p 9 (.p 10 (.p 12 (.x 13 (.p 14 .nil) .none)))))) .none) .none) .none)) (.x 11 (.x 3 (.x 5 (.x 6 (.p 7 (.p 8 (.p 9 (.p 10 (.p 12 (.x 13 (.p 14 .nil) .none)))))) .none) .none) .none) .none)))))) (by kernel_rfl) ?_ (by kernel_rfl) ?_); (repeat (with_reducible first | exact PanicFree.body | exact PanicFree.np | exact PanicFree.lvS | apply PanicFree.then_ | apply PanicFree.blk)))
    | ((with_reducible apply J.pl2); exact rfl; (first | exact Gd.none | ((with_reducible apply Gd.on); exact rfl; exact rfl)); (repeat (first | (with_reducible exact PendF.nil) | ((with_reducible apply PendF.keep); exact rfl) | ((with_reducible apply PendF.gone); exact rfl))))
    | ((with_reducible apply J.pl2_off); exact rfl; ((with_reducible apply Gd.off); exact rfl; exact rfl; exact rfl); exact rfl; (repeat (first | (with_reducible exact PendF.nil) | ((with_reducible apply PendF.keep); exact rfl) | ((with_reducible apply PendF.gone); exact rfl))))
    | ((with_reducible apply J.pl2_off_none); exact rfl; ((with_reducible apply Gd.off); exact rfl; exact rfl; exact rfl); (repeat (first | (with_reducible exact PendF.nil) | ((with_reducible apply PendF.keep); exact rfl) | ((with_reducible apply PendF.gone); exact rfl))))
    | ((with_reducible first | apply J.psplit0 | apply J.psplit1 | apply J.psplit2); exact rfl; exact rfl; exact rfl)
    | (with_reducible exact J.pl_none)
    | ((with_reducible apply J.gsplit); exact rfl; exact rfl)
    | ((with_reducible first | apply J.cond | apply JC.cond); exact rfl)
    | (intro h; exfalso; (first | (simp at h; done) | (simp at h; omega) | omega))
    | (intro h; (try simp only [decide_eq_true_eq, decide_eq_false_iff_not, beq_iff_eq, beq_eq_false_iff_ne, Bool.not_eq_true', Bool.not_eq_false', bne_iff_ne, bne_eq_false_iff_eq, ne_eq, ge_iff_le, gt_iff_lt] at h))
    | (with_reducible apply J.gave')
    | ((with_reducible apply J.kept'); rotate_left; (repeat (first | (with_reducible exact Outs.nil) | ((with_reducible apply Outs.cons); (repeat (first | with_reducible exact Out.here | with_reducible apply Out.there))))))
  all_goals first
    | (apply J.endRel (m := m) (q := q8) ⟨hm, by rw [em]; rfl, hE, by rw [em]; rfl⟩ (by assumption) rfl
       (repeat (first | (with_reducible exact Outs.nil) | ((with_reducible apply Outs.cons); (repeat (first | with_reducible exact Out.here | with_reducible apply Out.there))))))
    | (trace_state; fail)
end Go.Proofs.Ytfcaeifpclpnoaa.Rkp
