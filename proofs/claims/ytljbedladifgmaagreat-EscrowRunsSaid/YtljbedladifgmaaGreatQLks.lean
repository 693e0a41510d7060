/-
  Of which status a lock is; what a transaction does to locks. No conditions.
-/
import Derived.Test.YtljbedladifgmaaGreatQAlv
import Derived.Test.YtljbedladifgmaaGreatQR6b
namespace Go.Proofs.YtljbedladifgmaaGreat.Lks
open Go Go.RowKit Eng
set_option linter.unusedVariables false
set_option maxRecDepth 100000
set_option linter.unusedSimpArgs false
open Wide Purse Tx Sha Ss Esc Vau Lck Do Prep Ful Doo Tri App Inn Low Gene Pln Plx Sam Alv Deal Mss Ots Hash Bytes R6 R6b
set_option maxHeartbeats 1000000
/-- A lock that is not open stays so. -/
def kept1 (a b : Lk) : Prop := b.key = a.key ∧ b.dig = a.dig ∧ (b.st = a.st ∨ a.st = 1)
theorem kept1_refl (a : Lk) : kept1 a a := ⟨rfl, rfl, .inl rfl⟩
structure KL (L L' : List Lk) : Prop where
  lo : L.length ≤ L'.length
  hi : L'.length ≤ L.length + 1
  at_ : ∀ i, i < L.length → kept1 (L.getD i lk0) (L'.getD i lk0)
theorem KL.refl (L : List Lk) : KL L L := ⟨Nat.le_refl _, Nat.le_succ _, fun i _ => kept1_refl _⟩
theorem KL.prep (L : List Lk) (t : Tx) : KL L (prepL L t) := by
  unfold prepL
  refine ⟨by simp, by simp, fun i hi => ?_⟩
  have e : (L ++ ([⟨keyT t, digT t, 1⟩] : List Lk)).getD i lk0 = L.getD i lk0 := by
    rw [List.getD_eq_getElem?_getD, List.getD_eq_getElem?_getD, List.getElem?_append_left hi]
  rw [e]
  exact kept1_refl _
theorem KL.end_ {L : List Lk} {t : Tx} {x : Int} (h : lockE L t = 0) : KL L (endL L t x) := by
  unfold endL
  refine ⟨by rw [stL_length]; exact Nat.le_refl _, by rw [stL_length]; exact Nat.le_succ _, fun i hi => ?_⟩
  unfold stL
  by_cases e : (plc L (keyT t)).toNat = i
  · subst e
    have h1 : (L.getD (plc L (keyT t)).toNat lk0).st = 1 := by
      unfold lockE at h
      split at h
      · split at h
        · assumption
        · omega
      · omega
    rw [List.getD_eq_getElem?_getD (l := L.set _ _), List.getElem?_set_self hi]
    exact ⟨rfl, rfl, .inr h1⟩
  · rw [List.getD_eq_getElem?_getD (l := L.set _ _), List.getElem?_set_ne e, ← List.getD_eq_getElem?_getD]
    exact kept1_refl _
theorem fulX_0 {s : SS} {L : List Lk} {t : Tx} (h : (fulX s L t).1 = 0) : lockE L t = 0 := by
  refine Classical.byContradiction fun h1 => ?_
  unfold fulX at h
  rw [if_neg h1] at h
  exact h1 h
theorem canX_0 {s : SS} {L : List Lk} {t : Tx} (h : (canX s L t).1 = 0) : lockE L t = 0 := by
  refine Classical.byContradiction fun h1 => ?_
  unfold canX at h
  rw [if_neg h1] at h
  exact h1 h
theorem KL.do_ {s : SS} {L : List Lk} {t : Tx} (h : (doX s L t).1 = 0) : KL L (doL L t) := by
  unfold doL
  split
  · exact KL.prep L t
  · rename_i h4
    split
    · rename_i h5
      refine KL.end_ (fulX_0 (s := s) ?_)
      unfold doX at h
      rw [if_neg (by omega), if_neg (by omega), if_neg (by omega), if_neg h4, if_pos h5] at h
      exact h
    · rename_i h5
      split
      · rename_i h6
        refine KL.end_ (canX_0 (s := s) ?_)
        unfold doX at h
        rw [if_neg (by omega), if_neg (by omega), if_neg (by omega), if_neg h4, if_neg h5, if_pos h6] at h
        exact h
      · exact KL.refl L
theorem rplace (ao : Option Addr) (n cap : Nat) (L : List Lk) (key : List UInt8) (w : World) (hw : Rd w ao (lcs L) ∧ n = L.length ∧ L.length ≤ maxLen) : CSpec Tryz.prog 63 [.slice ao n cap, str key] [] w (Gives (.int .i64 (plc L key))) := by
  obtain ⟨hL, rfl, hm⟩ := hw
  have hm9 : L.length ≤ 9223372036854775807 := by unfold maxLen at hm; omega
  have hao : 0 < L.length → ao.isSome = true := fun h => hL.isSome (by
    intro e
    have h8 := lcs_length L
    rw [e] at h8
    simp at h8
    omega)
  refine spec_own0 Tryz.func63 rfl Tryz.ntmps63 rfl (l0 := [(0, .slice ao L.length cap), (1, str key)]) rfl ?_
  repeat' first
    | (refine J.qv ?_; (with_reducible apply exq); focus (first
      | ((with_reducible apply Qv.fieldAdd); exact rfl)
      | ((with_reducible apply Qv.indexSrcs (k := i)); exact rfl; exact rfl; (focus omega); (focus omega); exact hao (by omega))
      | ((with_reducible apply Qv.add); exact rfl; exact rfl; exact wr64 (by omega) (by omega) rfl)))
    | (refine J.qr ?_; (with_reducible apply exq); focus (first
      | ((with_reducible apply Qr.rd1 (C := lcs L) (j := i * 3)); exact rfl; exact RH.old hL; (show (lcs L)[i * 3 + 0]? = _; rw [lcs_get (by omega) (by decide)]; rfl))))
    | refine J.one ?_
    | refine J.loudS ?_
    | (refine J.loudQ ?_; intro _ _)
    | (refine J.loudB ?_; intro _)
    | (with_reducible apply J.list)
    | ((with_reducible apply J.gsplit); exact rfl; exact rfl)
    | ((with_reducible first | apply J.cond | apply JC.cond); exact rfl)
    | (intro h; exfalso; (first | (simp at h; done) | (simp at h; omega) | omega))
    | (intro h; (try simp only [decide_eq_true_eq, decide_eq_false_iff_not, beq_iff_eq, beq_eq_false_iff_ne, Bool.not_eq_true', Bool.not_eq_false', bne_iff_ne, bne_eq_false_iff_eq, ne_eq, ge_iff_le, gt_iff_lt] at h))
    | (with_reducible apply J.gave')
    | ((with_reducible apply J.kept'); rotate_left; (first | exact outs_au | fail))
  apply J.loopI (σ := Nat) (I := fun q => q ≤ L.length ∧ ∀ j, j < q → decide ((L.getD j lk0).key = key) = false) (L := fun q => [(0, .slice ao L.length cap), (1, str key), (5, .int .i64 (q : Int))]) (HH := fun q => []) (m := fun q => L.length - q) (s0 := 0)
  · ((try dsimp only); (exact ⟨Nat.zero_le _, fun j hj => by omega⟩))
  · ((try dsimp only); repeat (first | exact sub.nil _ | (refine sub.consE rfl ?_ ?_; (first | with_reducible rfl | (fail) | rfl))))
  · ((try dsimp only); (first | exact outs_au | fail))
  rintro i ⟨hi, hf⟩
  try dsimp only at *
  repeat' first
    | (refine J.qv ?_; (with_reducible apply exq); focus (first
      | ((with_reducible apply Qv.fieldAdd); exact rfl)
      | ((with_reducible apply Qv.indexSrcs (k := i)); exact rfl; exact rfl; (focus omega); (focus omega); exact hao (by omega))
      | ((with_reducible apply Qv.add); exact rfl; exact rfl; exact wr64 (by omega) (by omega) rfl)))
    | (refine J.qr ?_; (with_reducible apply exq); focus (first
      | ((with_reducible apply Qr.rd1 (C := lcs L) (j := i * 3)); exact rfl; exact RH.old hL; (show (lcs L)[i * 3 + 0]? = _; rw [lcs_get (by omega) (by decide)]; rfl))))
    | refine J.one ?_
    | refine J.loudS ?_
    | (refine J.loudQ ?_; intro _ _)
    | (refine J.loudB ?_; intro _)
    | (with_reducible apply J.list)
    | ((with_reducible apply J.gsplit); exact rfl; exact rfl)
    | ((with_reducible first | apply J.cond | apply JC.cond); exact rfl)
    | (intro h; exfalso; (first | (simp at h; done) | (simp at h; omega) | omega))
    | (intro h; (try simp only [decide_eq_true_eq, decide_eq_false_iff_not, beq_iff_eq, beq_eq_false_iff_ne, Bool.not_eq_true', Bool.not_eq_false', bne_iff_ne, bne_eq_false_iff_eq, ne_eq, ge_iff_le, gt_iff_lt] at h))
    | (with_reducible apply J.gave')
    | ((with_reducible apply J.kept'); rotate_left; (first | exact outs_au | fail))
  all_goals
    first
    | ((apply J.againI (s := i) (s' := (i + 1)); (focus (omega)); (focus ((try dsimp only); (exact ⟨by omega, fun j hj => by rcases Nat.lt_or_ge j i with h8 | h8; exact hf j h8; (have h9 : j = i := by omega); subst h9; exact decide_eq_false (by simpa using h)⟩))); (focus (((try dsimp only); repeat (first | exact sub.nil _ | (refine sub.consE rfl ?_ ?_; (first | with_reducible rfl | ((focus (congr 1; omega))) | rfl)))))); ((try dsimp only); (first | exact outs_au | fail))))
    | (simp only [retv]
       rw [show plc L key = (i : Int) from findI_at (by omega) (decide_eq_true (by assumption)) hf]
       done)
    | (have e0 : i = L.length := by omega
       subst e0
       simp only [retv]
       rw [show plc L key = -1 from findI_none hf]
       done)
    | (trace_state; fail)
end Go.Proofs.YtljbedladifgmaaGreat.Lks
