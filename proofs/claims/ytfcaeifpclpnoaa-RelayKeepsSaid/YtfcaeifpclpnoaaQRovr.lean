/-
  The reference: SHA-256 of a text. No conditions.
-/
import Derived.Test.YtfcaeifpclpnoaaQRsum
namespace Go.Proofs.Ytfcaeifpclpnoaa.Rovr
open Go Go.RowKit Eng
set_option linter.unusedVariables false
set_option maxRecDepth 100000
set_option linter.unusedSimpArgs false
open Sha Iter Hash Bytes Hsum Rsum
set_option maxHeartbeats 1000000
theorem rtable  (w : World) : CSpec Try.prog 131 [] [] w (Gives (.agg (tab (fun j => u32 (kw j)) 64).toArray)) := by
  refine spec_of Try.func131 rfl Try.ntmps131 rfl (l0 := []) rfl ?_
  intro fp
  repeat' first
    | refine J.one ?_
    | refine J.loudS ?_
    | (refine J.loudQ ?_; intro _ _)
    | (refine J.loudB ?_; intro _)
    | (with_reducible apply J.list)
    | ((with_reducible apply J.gsplit); exact rfl; exact rfl)
    | ((with_reducible first | apply J.cond | apply JC.cond); exact rfl)
    | (intro h; exfalso; (first | (simp at h; done) | (simp at h; omega)))
    | (intro h; (try simp only [decide_eq_true_eq, decide_eq_false_iff_not, beq_iff_eq, beq_eq_false_iff_ne, Bool.not_eq_true', Bool.not_eq_false', bne_iff_ne, bne_eq_false_iff_eq, ne_eq, ge_iff_le, gt_iff_lt] at h))
    | (with_reducible apply J.gave')
    | ((with_reducible apply J.kept'); rotate_left; (repeat (first | (with_reducible exact Outs.nil) | ((with_reducible apply Outs.cons); (repeat (first | with_reducible exact Out.here | with_reducible apply Out.there))))))
  all_goals (kernel_rfl)
theorem st8_at {s : Nat → W32} {i off : Nat} (he : off = i) (h : i < 8) : (st8 s)[off]? = some (u32 (s i)) := by rw [st8_tab]; exact tab_at he h
theorem k64_len : (tab (fun j => u32 (kw j)) 64).length = 64 := tab_length 64
theorem st8_len (s : Nat → W32) : (st8 s).length = 8 := rfl
theorem rblockN (s : Nat → W32) (ao : Option Addr) (n cap : Nat) (l : List UInt8) (w : World) (hw : Rd w ao (bcs l) ∧ l.length = 64 ∧ 64 ≤ cap ∧ n = 64) : CSpec Try.prog 140 [.agg (st8 s).toArray, .agg (tab (fun j => u32 (kw j)) 64).toArray, .slice ao n cap] [] w (Gives (.agg (st8 (blockS s l)).toArray)) := by
  obtain ⟨h1, h2, h3, rfl⟩ := hw
  exact rblock s ao cap l w ⟨h1, h2, h3⟩
theorem reS {ao : Option Addr} {n m c : Nat} (h : n = m) : Value.slice ao n c = .slice ao m c := by rw [h]
theorem chunk1 (p : List UInt8) (i : Nat) : (p.drop (i * 64 * 1)).take 64 = chunk p i := by rw [Nat.mul_one]; rfl
theorem rover (ao : Option Addr) (n cap : Nat) (l : List UInt8) (w : World) (hw : Rd w ao (bcs l) ∧ n = l.length ∧ l.length ≤ 1099511620000) : CSpec Try.prog 130 [.slice ao n cap, .agg (st8 st0).toArray, .agg (tab (fun j => u32 (kw j)) 64).toArray] [] w (Fresh 5 1 32 (bcs (sha l)) []) := by
  obtain ⟨hr, rfl, hl⟩ := hw
  refine spec_own0 Try.func130 rfl Try.ntmps130 rfl (l0 := [(0, .slice ao l.length cap), (1, .agg (st8 st0).toArray), (2, .agg (tab (fun j => u32 (kw j)) 64).toArray)]) rfl ?_
  repeat' first
    | ((with_reducible apply J.freshR (rpad _ _ _ l)); exact rfl; exact rfl; (focus (exact RH.and (RH.old hr) (RH.of ⟨rfl, hl⟩))); intro _ _)
    | refine J.one ?_
    | refine J.loudS ?_
    | (refine J.loudQ ?_; intro _ _)
    | (refine J.loudB ?_; intro _)
    | (with_reducible apply J.list)
    | ((with_reducible apply J.draw (id := 5) [0, 0, 0, 0, 0, 16, 60, 127, 255] (.q 0 (.q 1 (.p 2 (.p 3 (.p 4 (.p 5 (.p 6 (.x 7 (.x 8 .nil .none) .none)))))))) (by kernel_rfl) ?_ (by kernel_rfl) ?_); (repeat (with_reducible first | exact PanicFree.body | exact PanicFree.np | exact PanicFree.lvS | apply PanicFree.then_ | apply PanicFree.blk)))
    | ((with_reducible apply J.pl2); exact rfl; (first | exact Gd.none | ((with_reducible apply Gd.on); exact rfl; exact rfl)); (repeat (first | (with_reducible exact PendF.nil) | ((with_reducible apply PendF.keep); exact rfl) | ((with_reducible apply PendF.gone); exact rfl))))
    | ((with_reducible apply J.pl2_off); exact rfl; ((with_reducible apply Gd.off); exact rfl; exact rfl; exact rfl); exact rfl; (repeat (first | (with_reducible exact PendF.nil) | ((with_reducible apply PendF.keep); exact rfl) | ((with_reducible apply PendF.gone); exact rfl))))
    | ((with_reducible apply J.pl2_off_none); exact rfl; ((with_reducible apply Gd.off); exact rfl; exact rfl; exact rfl); (repeat (first | (with_reducible exact PendF.nil) | ((with_reducible apply PendF.keep); exact rfl) | ((with_reducible apply PendF.gone); exact rfl))))
    | ((with_reducible first | apply J.psplit0 | apply J.psplit1 | apply J.psplit2); exact rfl; exact rfl; exact rfl)
    | (with_reducible exact J.pl_none)
    | ((with_reducible apply J.gsplit); exact rfl; exact rfl)
    | ((with_reducible first | apply J.cond | apply JC.cond); exact rfl)
    | (intro h; exfalso; fail)
    | (intro h; (try simp only [decide_eq_true_eq, decide_eq_false_iff_not, beq_iff_eq, beq_eq_false_iff_ne, Bool.not_eq_true', Bool.not_eq_false', bne_iff_ne, bne_eq_false_iff_eq, ne_eq, ge_iff_le, gt_iff_lt] at h))
    | (with_reducible apply J.gave')
    | ((with_reducible apply J.kept'); rotate_left; (repeat (first | (with_reducible exact Outs.nil) | ((with_reducible apply Outs.cons); (repeat (first | with_reducible exact Out.here | with_reducible apply Out.there))))))
  rename_i b4 b5 q1 hq1
  obtain ⟨NB, hNB⟩ : ∃ NB, (pad l).length = NB * 64 := ⟨(pad l).length / 64, by have := pad_mod l; omega⟩
  have hpl : (pad l).length ≤ 1099511627776 := by rw [pad_length]; omega
  have hs : sha l = outS (sums (pad l) NB) 8 := by unfold sha; rw [show (pad l).length / 64 = NB by omega]
  apply J.reB (b := b4) (C' := st8 (sums (pad l) 0))
  · (repeat (first | with_reducible exact Upd.here | with_reducible apply Upd.there))
  · exact rfl
  apply J.loopI (σ := Nat) (I := fun q => q ≤ NB) (L := fun q => [(4, .pointer (some ⟨b4, 0, none⟩)), (5, .pointer (some ⟨b5, 0, none⟩)), (7, .slice q1.1 (pad l).length q1.2), (8, .int .i64 ((q * 64 : Nat) : Int))]) (HH := fun q => [blk b4 (st8 (sums (pad l) q)) 197, blk b5 (tab (fun j => u32 (kw j)) 64) 198, row (.slice q1.1 (pad l).length q1.2) 5 1 (pad l).length (bcs (pad l))]) (m := fun q => NB - q) (s0 := 0)
  · ((try dsimp only); (exact Nat.zero_le _))
  · ((try dsimp only); repeat (first | exact sub.nil _ | (refine sub.consE rfl ?_ ?_; (first | with_reducible rfl | ((focus (congr 1; omega))) | rfl))))
  · ((try dsimp only); (repeat (first | (with_reducible exact Outs.nil) | ((with_reducible apply Outs.cons); (repeat (first | with_reducible exact Out.here | with_reducible apply Out.there))))))
  rintro i hI
  try dsimp only at hI ⊢
  rcases Nat.lt_or_ge i NB with hlt | hge
  · skip
    repeat' first
      | (refine J.qv ?_; (with_reducible apply exq); focus (first
        | ((with_reducible apply Qv.add); exact rfl; exact rfl; exact wr64 (by omega) (by omega) rfl)
        | ((with_reducible apply Qv.sl (p := i * 64) (r := i * 64 + 64)); exact rfl; exact Bd.some rfl (by omega); exact Bd.some rfl (by omega); omega; omega)))
      | (refine J.qr ?_; (with_reducible apply exq); focus (first
        | ((with_reducible apply Qr.loadFull); exact rfl; (focus ((repeat (first | with_reducible exact In.here | with_reducible apply In.there)); done)); (first | exact k64_len | exact st8_len _))))
      | (refine J.qo ?_; refine ⟨?_, ?_⟩; focus (first
        | ((with_reducible apply Qr.loadFull); exact rfl; (focus ((repeat (first | with_reducible exact In.here | with_reducible apply In.there)); done)); (first | exact k64_len | exact st8_len _))))
      | ((with_reducible apply J.storeFull); exact rfl; exact rfl; (repeat (first | with_reducible exact Upd.here | with_reducible apply Upd.there)); (exact st8_len _); (exact st8_len _); exact rfl)
      | ((with_reducible apply J.givesR (rblockN _ _ _ _ (((pad l).drop (i * 64 * 1)).take 64))); exact rfl; exact rfl; focus ((refine RH.and ?_ (RH.of ?_); exact RH.off (RH.row (by (repeat (first | with_reducible exact In.here | with_reducible apply In.there)))) (by omega); (refine ⟨?_, ?_, ?_⟩ <;> (first | (simp; omega) | omega)))))
      | refine J.one ?_
      | refine J.loudS ?_
      | (refine J.loudQ ?_; intro _ _)
      | (refine J.loudB ?_; intro _)
      | (with_reducible apply J.list)
      | ((with_reducible apply J.draw (id := 5) [0, 0, 0, 0, 0, 16, 60, 127, 255] (.q 0 (.q 1 (.p 2 (.p 3 (.p 4 (.p 5 (.p 6 (.x 7 (.x 8 .nil .none) .none)))))))) (by kernel_rfl) ?_ (by kernel_rfl) ?_); (repeat (with_reducible first | exact PanicFree.body | exact PanicFree.np | exact PanicFree.lvS | apply PanicFree.then_ | apply PanicFree.blk)))
      | ((with_reducible apply J.pl2); exact rfl; (first | exact Gd.none | ((with_reducible apply Gd.on); exact rfl; exact rfl)); (repeat (first | (with_reducible exact PendF.nil) | ((with_reducible apply PendF.keep); exact rfl) | ((with_reducible apply PendF.gone); exact rfl))))
      | ((with_reducible apply J.pl2_off); exact rfl; ((with_reducible apply Gd.off); exact rfl; exact rfl; exact rfl); exact rfl; (repeat (first | (with_reducible exact PendF.nil) | ((with_reducible apply PendF.keep); exact rfl) | ((with_reducible apply PendF.gone); exact rfl))))
      | ((with_reducible apply J.pl2_off_none); exact rfl; ((with_reducible apply Gd.off); exact rfl; exact rfl; exact rfl); (repeat (first | (with_reducible exact PendF.nil) | ((with_reducible apply PendF.keep); exact rfl) | ((with_reducible apply PendF.gone); exact rfl))))
      | ((with_reducible first | apply J.psplit0 | apply J.psplit1 | apply J.psplit2); exact rfl; exact rfl; exact rfl)
      | (with_reducible exact J.pl_none)
      | ((with_reducible apply J.gsplit); exact rfl; exact rfl)
      | ((with_reducible first | apply J.cond | apply JC.cond); exact rfl)
      | (intro h; exfalso; (first | (simp at h; done) | (simp at h; omega) | omega))
      | (intro h; (try simp only [decide_eq_true_eq, decide_eq_false_iff_not, beq_iff_eq, beq_eq_false_iff_ne, Bool.not_eq_true', Bool.not_eq_false', bne_iff_ne, bne_eq_false_iff_eq, ne_eq, ge_iff_le, gt_iff_lt] at h))
      | (with_reducible apply J.gave')
      | ((with_reducible apply J.kept'); rotate_left; (repeat (first | (with_reducible exact Outs.nil) | ((with_reducible apply Outs.cons); (repeat (first | with_reducible exact Out.here | with_reducible apply Out.there))))))
    all_goals
      first
      | (apply J.reB (b := b4) (C' := st8 (sums (pad l) (i + 1)))
         · (repeat (first | with_reducible exact Upd.here | with_reducible apply Upd.there))
         · rw [chunk1]; rfl
         (apply J.againI (s := i) (s' := (i + 1)); (focus (omega)); (focus ((try dsimp only); omega)); (focus (((try dsimp only); repeat (first | exact sub.nil _ | (refine sub.consE rfl ?_ ?_; (first | with_reducible rfl | ((focus (congr 1; omega))) | rfl)))))); ((try dsimp only); (repeat (first | (with_reducible exact Outs.nil) | ((with_reducible apply Outs.cons); (repeat (first | with_reducible exact Out.here | with_reducible apply Out.there))))))))
      | (trace_state; fail)
  obtain rfl : NB = i := by omega
  repeat' first
    | refine J.one ?_
    | refine J.loudS ?_
    | (refine J.loudQ ?_; intro _ _)
    | (refine J.loudB ?_; intro _)
    | (with_reducible apply J.list)
    | ((with_reducible apply J.draw (id := 5) [0, 0, 0, 0, 0, 16, 60, 127, 255] (.q 0 (.q 1 (.p 2 (.p 3 (.p 4 (.p 5 (.p 6 (.x 7 (.x 8 .nil .none) .none)))))))) (by kernel_rfl) ?_ (by kernel_rfl) ?_); (repeat (with_reducible first | exact PanicFree.body | exact PanicFree.np | exact PanicFree.lvS | apply PanicFree.then_ | apply PanicFree.blk)))
    | ((with_reducible apply J.pl2); exact rfl; (first | exact Gd.none | ((with_reducible apply Gd.on); exact rfl; exact rfl)); (repeat (first | (with_reducible exact PendF.nil) | ((with_reducible apply PendF.keep); exact rfl) | ((with_reducible apply PendF.gone); exact rfl))))
    | ((with_reducible apply J.pl2_off); exact rfl; ((with_reducible apply Gd.off); exact rfl; exact rfl; exact rfl); exact rfl; (repeat (first | (with_reducible exact PendF.nil) | ((with_reducible apply PendF.keep); exact rfl) | ((with_reducible apply PendF.gone); exact rfl))))
    | ((with_reducible apply J.pl2_off_none); exact rfl; ((with_reducible apply Gd.off); exact rfl; exact rfl; exact rfl); (repeat (first | (with_reducible exact PendF.nil) | ((with_reducible apply PendF.keep); exact rfl) | ((with_reducible apply PendF.gone); exact rfl))))
    | ((with_reducible first | apply J.psplit0 | apply J.psplit1 | apply J.psplit2); exact rfl; exact rfl; exact rfl)
    | (with_reducible exact J.pl_none)
    | ((with_reducible apply J.gsplit); exact rfl; exact rfl)
    | ((with_reducible first | apply J.cond | apply JC.cond); exact rfl)
    | (intro h; exfalso; (first | (simp at h; done) | (simp at h; omega) | omega))
    | (intro h; (try simp only [decide_eq_true_eq, decide_eq_false_iff_not, beq_iff_eq, beq_eq_false_iff_ne, Bool.not_eq_true', Bool.not_eq_false', bne_iff_ne, bne_eq_false_iff_eq, ne_eq, ge_iff_le, gt_iff_lt] at h))
    | (with_reducible apply J.gave')
    | ((with_reducible apply J.kept'); rotate_left; (repeat (first | (with_reducible exact Outs.nil) | ((with_reducible apply Outs.cons); (repeat (first | with_reducible exact Out.here | with_reducible apply Out.there))))))
  refine J.nilRow 5 1 ?_
  apply J.reR (v' := .slice none (4 * 0) 0) (n' := 4 * 0) (C' := bcs (outS (sums (pad l) NB) 0))
  · (repeat (first | with_reducible exact Upd.here | with_reducible apply Upd.there))
  · rfl
  · rfl
  · rfl
  apply J.loopI (σ := (Nat × (Option Addr × Nat))) (I := fun s => (s.1 ≤ 8)) (L := fun s => [(9, .slice s.2.1 (4 * s.1) s.2.2), (4, .pointer (some ⟨b4, 0, none⟩)), (10, .int .i64 (s.1 : Int))]) (HH := fun s => [blk b4 (st8 (sums (pad l) NB)) 197, row (.slice s.2.1 (4 * s.1) s.2.2) 5 1 (4 * s.1) (bcs (outS (sums (pad l) NB) s.1))]) (m := fun s => 8 - s.1) (s0 := (0, (none, 0)))
  · ((try dsimp only); (exact Nat.zero_le _))
  · ((try dsimp only); repeat (first | exact sub.nil _ | (refine sub.consE rfl ?_ ?_; (first | with_reducible rfl | (fail) | rfl))))
  · ((try dsimp only); (repeat (first | (with_reducible exact Outs.nil) | ((with_reducible apply Outs.cons); (repeat (first | with_reducible exact Out.here | with_reducible apply Out.there))))))
  rintro ⟨i, q2⟩ hI
  try dsimp only at hI ⊢
  have hlt := (sums (pad l) NB i).isLt
  repeat' first
    | (refine J.qv ?_; (with_reducible apply exq); focus (first
      | ((with_reducible apply Qv.indexArr); exact rfl; exact rfl; (constructor <;> omega); exact rfl)
      | ((with_reducible apply Qv.conv); exact rfl; exact wr64 (z := (((sums (pad l) NB i).toNat : Nat) : Int)) (by omega) (by omega) rfl)))
    | (refine J.qr ?_; (with_reducible apply exq); focus (first
      | ((with_reducible apply Qr.load1); exact rfl; (repeat (first | with_reducible exact In.here | with_reducible apply In.there)); exact st8_at (i := i) (by omega) (by omega))))
    | (refine J.qo ?_; refine ⟨?_, ?_⟩; focus (first
      | ((with_reducible apply Qr.load1); exact rfl; (repeat (first | with_reducible exact In.here | with_reducible apply In.there)); exact st8_at (i := i) (by omega) (by omega))))
    | ((with_reducible apply J.freshR (rnum (sums (pad l) NB i).toNat 4)); exact rfl; exact rfl; (focus ((refine RH.of ?_; omega))); intro _ _)
    | ((with_reducible apply J.freshR (rcat _ _ _ (outS (sums (pad l) NB) i) _ _ _ (num (sums (pad l) NB i).toNat 4))); exact rfl; exact rfl; (focus (exact RH.and (RH.row (by (repeat (first | with_reducible exact In.here | with_reducible apply In.there)))) (RH.and (RH.of (by first | rfl | (simp [num_length, outS_length]; done) | (simp [num_length]; omega))) (RH.and (RH.row (by (repeat (first | with_reducible exact In.here | with_reducible apply In.there)))) (RH.of ⟨(by first | rfl | (simp [num_length, outS_length]; done) | (simp [num_length]; omega)), (by simp [num_length, outS_length]; omega)⟩))))); intro _ _)
    | refine J.one ?_
    | refine J.loudS ?_
    | (refine J.loudQ ?_; intro _ _)
    | (refine J.loudB ?_; intro _)
    | (with_reducible apply J.list)
    | ((with_reducible apply J.draw (id := 5) [0, 0, 0, 0, 0, 16, 60, 127, 255] (.q 0 (.q 1 (.p 2 (.p 3 (.p 4 (.p 5 (.p 6 (.x 7 (.x 8 .nil .none) .none)))))))) (by kernel_rfl) ?_ (by kernel_rfl) ?_); (repeat (with_reducible first | exact PanicFree.body | exact PanicFree.np | exact PanicFree.lvS | apply PanicFree.then_ | apply PanicFree.blk)))
    | ((with_reducible apply J.pl2); exact rfl; (first | exact Gd.none | ((with_reducible apply Gd.on); exact rfl; exact rfl)); (repeat (first | (with_reducible exact PendF.nil) | ((with_reducible apply PendF.keep); exact rfl) | ((with_reducible apply PendF.gone); exact rfl))))
    | ((with_reducible apply J.pl2_off); exact rfl; ((with_reducible apply Gd.off); exact rfl; exact rfl; exact rfl); exact rfl; (repeat (first | (with_reducible exact PendF.nil) | ((with_reducible apply PendF.keep); exact rfl) | ((with_reducible apply PendF.gone); exact rfl))))
    | ((with_reducible apply J.pl2_off_none); exact rfl; ((with_reducible apply Gd.off); exact rfl; exact rfl; exact rfl); (repeat (first | (with_reducible exact PendF.nil) | ((with_reducible apply PendF.keep); exact rfl) | ((with_reducible apply PendF.gone); exact rfl))))
    | ((with_reducible first | apply J.psplit0 | apply J.psplit1 | apply J.psplit2); exact rfl; exact rfl; exact rfl)
    | (with_reducible exact J.pl_none)
    | ((with_reducible apply J.gsplit); exact rfl; exact rfl)
    | ((with_reducible first | apply J.cond | apply JC.cond); exact rfl)
    | (intro h; exfalso; (first | (simp at h; done) | (simp at h; omega) | omega))
    | (intro h; (try simp only [decide_eq_true_eq, decide_eq_false_iff_not, beq_iff_eq, beq_eq_false_iff_ne, Bool.not_eq_true', Bool.not_eq_false', bne_iff_ne, bne_eq_false_iff_eq, ne_eq, ge_iff_le, gt_iff_lt] at h))
    | (with_reducible apply J.gave')
    | ((with_reducible apply J.kept'); rotate_left; (repeat (first | (with_reducible exact Outs.nil) | ((with_reducible apply Outs.cons); (repeat (first | with_reducible exact Out.here | with_reducible apply Out.there))))))
  all_goals
    first
    | (have hq : i < 8 := by omega
       rename_i q3 _ q4 _
       apply J.reR (v' := .slice q4.1 (4 * (i + 1)) q4.2) (n' := 4 * (i + 1)) (C' := bcs (outS (sums (pad l) NB) (i + 1)))
       · (repeat (first | with_reducible exact Upd.here | with_reducible apply Upd.there))
       · exact reS (by simp [num_length, outS_length]; try omega)
       · (simp [num_length, outS_length]; try omega)
       · rfl
       (apply J.againI (s := (i, q2)) (s' := (i + 1, q4)); (focus (omega)); (focus ((try dsimp only); (show i + 1 ≤ 8; omega))); (focus (((try dsimp only); repeat (first | exact sub.nil _ | (refine sub.consE rfl ?_ ?_; (first | with_reducible rfl | ((focus (first | rfl | (congr 1; omega) | exact reS (by simp [num_length, outS_length]; try omega)))) | rfl)))))); ((try dsimp only); (repeat (first | (with_reducible exact Outs.nil) | ((with_reducible apply Outs.cons); (repeat (first | with_reducible exact Out.here | with_reducible apply Out.there))))))))
    | (have hq : i = 8 := by omega
       subst hq
       rw [hs]
       ((with_reducible apply J.freshRow); (repeat (first | with_reducible exact Out.here | with_reducible apply Out.there)); exact rfl; rfl; rfl))
    | (trace_state; fail)
theorem rsum (ao : Option Addr) (n cap : Nat) (l : List UInt8) (w : World) (hw : Rd w ao (bcs l) ∧ n = l.length ∧ l.length ≤ 1099511620000) : CSpec Try.prog 118 [.slice ao n cap] [] w (Fresh 5 1 32 (bcs (sha l)) []) := by
  obtain ⟨hr, rfl, hl⟩ := hw
  refine spec_own0 Try.func118 rfl Try.ntmps118 rfl (l0 := [(0, .slice ao l.length cap)]) rfl ?_
  repeat' first
    | (refine J.qv ?_; (with_reducible apply exq); focus (first
      | ((with_reducible apply Qv.buildA); exact rfl; (show _ = some (st8 st0)); kernel_rfl)))
    | ((with_reducible apply J.givesW (rtable)); exact rfl; exact rfl)
    | ((with_reducible apply J.freshR (rover _ _ _ l)); exact rfl; exact rfl; (focus (exact RH.and (RH.old hr) (RH.of ⟨rfl, hl⟩))); intro _ _)
    | refine J.one ?_
    | refine J.loudS ?_
    | (refine J.loudQ ?_; intro _ _)
    | (refine J.loudB ?_; intro _)
    | (with_reducible apply J.list)
    | ((with_reducible apply J.gsplit); exact rfl; exact rfl)
    | ((with_reducible first | apply J.cond | apply JC.cond); exact rfl)
    | (intro h; exfalso; fail)
    | (intro h; (try simp only [decide_eq_true_eq, decide_eq_false_iff_not, beq_iff_eq, beq_eq_false_iff_ne, Bool.not_eq_true', Bool.not_eq_false', bne_iff_ne, bne_eq_false_iff_eq, ne_eq, ge_iff_le, gt_iff_lt] at h))
    | (with_reducible apply J.gave')
    | ((with_reducible apply J.kept'); rotate_left; (repeat (first | (with_reducible exact Outs.nil) | ((with_reducible apply Outs.cons); (repeat (first | with_reducible exact Out.here | with_reducible apply Out.there))))))
  all_goals (((with_reducible apply J.freshRow); (repeat (first | with_reducible exact Out.here | with_reducible apply Out.there)); exact rfl; rfl; rfl))
theorem rshort (s : List UInt8) (w : World) (hw : s.length ≤ 1099511620000) : CSpec Try.prog 92 [str s] [] w (Gives (str (short s))) := by
  refine spec_own0 Try.func92 rfl Try.ntmps92 rfl (l0 := [(0, str s)]) rfl ?_
  repeat' first
    | (refine J.qv ?_; (with_reducible apply exq); focus (first
      | ((with_reducible apply Qv.slS (p := 0) (r := 8)); exact rfl; exact Bd.none; exact Bd.some rfl rfl; omega; (rw [sha_length]; omega))))
    | (refine J.qr ?_; (with_reducible apply exq); focus (first
      | ((with_reducible apply Qr.toStr); exact rfl; (with_reducible apply RH.row; (repeat (first | with_reducible exact In.here | with_reducible apply In.there))); exact (sha_length _).symm)))
    | ((with_reducible apply J.freshR (rsum _ _ _ s)); exact rfl; exact rfl; (focus (exact RH.and (RH.bat (by (repeat (first | with_reducible exact In.here | with_reducible apply In.there)))) (RH.of ⟨rfl, hw⟩))); intro _ _)
    | refine J.one ?_
    | refine J.loudS ?_
    | (refine J.loudQ ?_; intro _ _)
    | (refine J.loudB ?_; intro _)
    | (with_reducible apply J.list)
    | ((with_reducible apply J.gsplit); exact rfl; exact rfl)
    | ((with_reducible first | apply J.cond | apply JC.cond); exact rfl)
    | (intro h; exfalso; fail)
    | (intro h; (try simp only [decide_eq_true_eq, decide_eq_false_iff_not, beq_iff_eq, beq_eq_false_iff_ne, Bool.not_eq_true', Bool.not_eq_false', bne_iff_ne, bne_eq_false_iff_eq, ne_eq, ge_iff_le, gt_iff_lt] at h))
    | (with_reducible apply J.gave')
    | ((with_reducible apply J.kept'); rotate_left; (repeat (first | (with_reducible exact Outs.nil) | ((with_reducible apply Outs.cons); (repeat (first | with_reducible exact Out.here | with_reducible apply Out.there))))))
  all_goals (rfl)
end Go.Proofs.Ytfcaeifpclpnoaa.Rovr
