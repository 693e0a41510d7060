/-
  A user: what each of the laws begins with; the law ClientFees. No conditions.
-/
import Derived.Test.YtfcaeifpclpnoaaQRovr
import Derived.Test.YtfcaeifpclpnoaaQOts
import Derived.RangeFuncNested
import Derived.RangeFuncBound
import Derived.RangeFuncCalls
import Derived.RangeFuncLeaves
import Derived.Shelf.Abstract
import Derived.Shelf.RegionOpen
import Derived.WalkKit
import Derived.OwnWalkIn
import Derived.TacticsInMore
import Derived.LoopNIn
import Derived.LoopIn
import Derived.RangeFuncFrom
import Derived.Test.YtfcaeifpclpnoaaQTy
import Derived.Test.YtfcaeifpclpnoaaQFl
import Derived.Test.YtfcaeifpclpnoaaQWide
namespace Go.Proofs.Ytfcaeifpclpnoaa.Mrt
open Go Go.RowKit Eng
set_option linter.unusedVariables false
set_option maxRecDepth 100000
set_option linter.unusedSimpArgs false
open Sha Iter Hash Bytes Hsum Ots Rsum Rovr
set_option maxHeartbeats 1000000
/-- A leaf's beginnings. -/
def bgn (seed : List UInt8) (leaf j : Nat) : List UInt8 := short (seed ++ num leaf 2 ++ [UInt8.ofNat j])
def bgL (seed : List UInt8) (leaf : Nat) : List (List UInt8) := (List.range 15).map (bgn seed leaf)
theorem bgL_length (seed : List UInt8) (leaf : Nat) : (bgL seed leaf).length = 15 := by simp [bgL]
theorem bgL_get (seed : List UInt8) (leaf : Nat) {j : Nat} (h : j < 15) : (bgL seed leaf)[j]? = some (bgn seed leaf j) := by simp [bgL, h]
theorem bgL_le (seed : List UInt8) (leaf : Nat) : ∀ p, p ∈ bgL seed leaf → p.length ≤ 8 := by
  intro p hp
  simp only [bgL, List.mem_map] at hp
  obtain ⟨j, _, rfl⟩ := hp
  exact Nat.le_of_eq (short_length _)
/-- A leaf's public part. -/
def pubF (seed : List UInt8) (leaf : Nat) : List UInt8 := short (closedL (bgL seed leaf) (List.replicate 15 0)).flatten
def rowL (seed : List UInt8) : List (List UInt8) := (List.range 8).map (pubF seed)
theorem rowL_get (seed : List UInt8) {j : Nat} (h : j < 8) : (rowL seed)[j]? = some (pubF seed j) := by simp [rowL, h]
theorem rowL_length (seed : List UInt8) : (rowL seed).length = 8 := by simp [rowL]
theorem pubF_length (seed : List UInt8) (i : Nat) : (pubF seed i).length = 8 := short_length _
/-- The row above. -/
def abv : List (List UInt8) → List (List UInt8)
  | a :: b :: r => short (a ++ b) :: abv r
  | _ => []
theorem abv_get : ∀ {L : List (List UInt8)} {k : Nat} {a b : List UInt8}, L[2 * k]? = some a → L[2 * k + 1]? = some b → (abv L)[k]? = some (short (a ++ b))
  | [], k, a, b, h, _ => by simp at h
  | [x], k, a, b, _, h => by simp at h
  | x :: y :: r, 0, a, b, h1, h2 => by
    simp at h1 h2
    subst h1 h2
    rfl
  | x :: y :: r, k + 1, a, b, h1, h2 => by
    rw [show 2 * (k + 1) = 2 * k + 1 + 1 by omega] at h1
    rw [show 2 * (k + 1) + 1 = 2 * k + 1 + 1 + 1 by omega] at h2
    simp only [List.getElem?_cons_succ] at h1 h2
    show (abv r)[k]? = _
    exact abv_get h1 h2
theorem abv_length : ∀ {L : List (List UInt8)} {m : Nat}, L.length = 2 * m → (abv L).length = m
  | [], m, h => by
    have h : m = 0 := by simp at h; omega
    subst h
    rfl
  | [x], m, h => by simp at h; omega
  | x :: y :: r, m, h => by
    cases m with
    | zero => simp at h
    | succ m =>
      simp at h
      show (abv r).length + 1 = _
      rw [abv_length (L := r) (m := m) (by omega)]
theorem abv_le : ∀ {L : List (List UInt8)} {x : List UInt8}, x ∈ abv L → x.length = 8
  | [], x, h => by cases h
  | [y], x, h => by cases h
  | a :: b :: r, x, h => by
    rcases List.mem_cons.1 h with rfl | h
    · exact short_length _
    · exact abv_le h
/-- A key's root. -/
def rootF (seed : List UInt8) : List UInt8 := (abv (abv (abv (rowL seed)))).getD 0 []
def r2F (seed : List UInt8) (i : Nat) : List UInt8 := short (pubF seed i ++ pubF seed (i + 1))
def r4F (seed : List UInt8) (i : Nat) : List UInt8 := short (r2F seed i ++ r2F seed (i + 2))
theorem root_eq (seed : List UInt8) : rootF seed = short (r4F seed 0 ++ r4F seed 4) := rfl
theorem rootF_length (seed : List UInt8) : (rootF seed).length = 8 := by rw [root_eq]; exact short_length _
theorem clampL {k : Nat} (h : k ≤ 7) : imin (imax (k : Int) 0) 65535 = (k : Int) := by unfold imin imax; split <;> split <;> omega
theorem wj {j : Nat} (h : j < 15) : IntKind.u8.wrap (j : Int) = ((UInt8.ofNat j).toNat : Int) := by
  rw [show IntKind.u8.wrap (j : Int) = ((j % 256 : Nat) : Int) from wr8]
  simp
theorem RH.b1 {w0 : World} {own : List Nat} {H : List Asrt} {b E : Nat} {x : UInt8} (hm : In (Eng.blk b [Value.int .u8 (x.toNat : Int)] E) H) : RH w0 own H (fun w => Rd w (some ⟨b, 0, none⟩) (bcs [x])) := RH.blk0 hm
theorem RH.zs {w0 : World} {own : List Nat} {H : List Asrt} {b E : Nat} (hm : In (Eng.blk b (tab (fun _ => Value.int .i64 0) 15) E) H) : RH w0 own H (fun w => Rd w (some ⟨b, 0, none⟩) (ncs (List.replicate 15 0))) := RH.blk0 hm
theorem pub_eq (seed : List UInt8) (leaf : Nat) : short ((bgL seed leaf).map fun p => wk p 3).flatten = pubF seed leaf := rfl
theorem wk8 {s : List UInt8} (h : s.length = 8) : ∀ k, (wk s k).length = 8
  | 0 => h
  | k + 1 => short_length _
theorem numL (leaf : Nat) (h : leaf ≤ 7) (w : World) (hw : True) : CSpec Try.prog 78 [.int .i64 (imin (imax (leaf : Int) 0) 65535), .int .i64 2] [] w (Fresh 5 1 2 (bcs (num leaf 2)) []) := by
  rw [clampL h]
  exact num_ leaf 2 w (by omega)
theorem rnumL (leaf : Nat) (h : leaf ≤ 7) (w : World) (hw : True) : CSpec Try.prog 129 [.int .i64 (imin (imax (leaf : Int) 0) 65535), .int .i64 2] [] w (Fresh 5 1 2 (bcs (num leaf 2)) []) := by
  rw [clampL h]
  exact rnum leaf 2 w (by omega)
theorem bgnS (seed : List UInt8) (leaf j : Nat) (ao : Option Addr) (n cap : Nat) (w : World) (hw : RdS w ao [seed, num leaf 2, [UInt8.ofNat j]] ∧ n = 3 ∧ seed.length ≤ 1000) : CSpec Try.prog 121 [.slice ao n cap] [] w (Gives (str (bgn seed leaf j))) := by
  have h := short_ ao n cap [seed, num leaf 2, [UInt8.ofNat j]] w ⟨hw.1, hw.2.1, by have := hw.2.2; simp [num_length]; omega, by simp⟩
  rw [show ([seed, num leaf 2, [UInt8.ofNat j]] : List (List UInt8)).flatten = seed ++ num leaf 2 ++ [UInt8.ofNat j] by simp] at h
  exact h
theorem begin_ (seed : List UInt8) (leaf : Nat) (hl : leaf ≤ 7) (w : World) (hw : seed.length ≤ 1000) : CSpec Try.prog 120 [str seed, .int .i64 (leaf : Int)] [] w (Fresh 9 1 15 (scs (bgL seed leaf)) []) := by
  refine spec_own0 Try.func120 rfl Try.ntmps120 rfl (l0 := [(0, str seed), (1, .int .i64 (leaf : Int))]) rfl ?_
  repeat' first
    | ((with_reducible apply J.freshR (numL leaf hl)); exact rfl; exact rfl; (focus (exact RH.true_)); intro _ _)
    | refine J.one ?_
    | refine J.loudS ?_
    | (refine J.loudQ ?_; intro _ _)
    | (refine J.loudB ?_; intro _)
    | (with_reducible apply J.list)
    | ((with_reducible apply J.gsplit); exact rfl; exact rfl)
    | ((with_reducible first | apply J.cond | apply JC.cond); exact rfl)
    | (intro h; exfalso; fail)
    | (intro h; (try simp only [decide_eq_true_eq, decide_eq_false_iff_not, beq_iff_eq, beq_eq_false_iff_ne, Bool.not_eq_true', Bool.not_eq_false', bne_iff_ne, bne_eq_false_iff_eq, ne_eq, ge_iff_le, gt_iff_lt] at h))
    | (with_reducible apply J.gave')
    | ((with_reducible apply J.kept'); rotate_left; (repeat (first | (with_reducible exact Outs.nil) | ((with_reducible apply Outs.cons); (repeat (first | with_reducible exact Out.here | with_reducible apply Out.there))))))
  rename_i qn _
  refine J.nilRowC 9 1 (scs ((bgL seed leaf).take 0)) rfl ?_
  apply J.loopI (σ := (Nat × (Option Addr × Nat))) (I := fun s => (s.1 ≤ 15)) (L := fun s => [(0, str seed), (6, .slice qn.1 2 qn.2), (12, .int .i64 (s.1 : Int)), (5, .slice s.2.1 s.1 s.2.2)]) (HH := fun s => [row (.slice s.2.1 s.1 s.2.2) 9 1 s.1 (scs ((bgL seed leaf).take s.1)), row (.slice qn.1 2 qn.2) 5 1 2 (bcs (num leaf 2))]) (m := fun s => 15 - s.1) (s0 := (0, (none, 0)))
  · ((try dsimp only); (exact Nat.zero_le _))
  · ((try dsimp only); repeat (first | exact sub.nil _ | (refine sub.consE rfl ?_ ?_; (first | with_reducible rfl | (fail) | rfl))))
  · ((try dsimp only); (repeat (first | (with_reducible exact Outs.nil) | ((with_reducible apply Outs.cons); (repeat (first | with_reducible exact Out.here | with_reducible apply Out.there))))))
  rintro ⟨j, q⟩ hI
  try dsimp only at hI ⊢
  rcases Nat.lt_or_ge j 15 with hlt | hge
  · have hts := take_snoc (bgL_get seed leaf hlt)
    repeat' first
      | (refine J.qv ?_; (with_reducible apply exq); focus (first
        | ((with_reducible apply Qv.conv); exact rfl; exact wj (by omega))))
      | ((with_reducible apply J.appendR (news := [_])); exact rfl; exact rfl; (repeat (first | with_reducible exact Out.here | with_reducible apply Out.there)); exact rfl; exact RH.blk0 (by (repeat (first | with_reducible exact In.here | with_reducible apply In.there))); exact rfl; exact rfl; exact rfl; exact rfl; (simp only [maxLen]; omega); omega; intro _ _)
      | ((with_reducible apply J.givesR (bgnS seed leaf j _ _ _)); exact rfl; exact rfl; focus (exact RH.and (RH.sblk (by (repeat (first | with_reducible exact In.here | with_reducible apply In.there))) (RH.lcons (RH.bbat (by (repeat (first | with_reducible exact In.here | with_reducible apply In.there)))) (RH.lcons (RH.brow (by (repeat (first | with_reducible exact In.here | with_reducible apply In.there)))) (RH.lcons (RH.b (RH.b1 (by (repeat (first | with_reducible exact In.here | with_reducible apply In.there)))) (by rfl) (by decide)) RH.lnil)))) (RH.of ⟨rfl, hw⟩)))
      | refine J.one ?_
      | refine J.loudS ?_
      | (refine J.loudQ ?_; intro _ _)
      | (refine J.loudB ?_; intro _)
      | (with_reducible apply J.list)
      | ((with_reducible apply J.gsplit); exact rfl; exact rfl)
      | ((with_reducible first | apply J.cond | apply JC.cond); exact rfl)
      | (intro h; exfalso; (first | (simp at h; done) | (simp at h; omega) | omega))
      | (intro h; (try simp only [decide_eq_true_eq, decide_eq_false_iff_not, beq_iff_eq, beq_eq_false_iff_ne, Bool.not_eq_true', Bool.not_eq_false', bne_iff_ne, bne_eq_false_iff_eq, ne_eq, ge_iff_le, gt_iff_lt] at h))
      | (with_reducible apply J.gave')
      | ((with_reducible apply J.kept'); rotate_left; (repeat (first | (with_reducible exact Outs.nil) | ((with_reducible apply Outs.cons); (repeat (first | with_reducible exact Out.here | with_reducible apply Out.there))))))
    all_goals
      first
      | (rename_i q9 _
         apply J.reR (E := 9) (v := .slice q9.1 (j + 1) q9.2) (n := j + 1) (C := scs ((bgL seed leaf).take j) ++ [str (bgn seed leaf j)]) (v' := .slice q9.1 (j + 1) q9.2) (n' := j + 1) (C' := scs ((bgL seed leaf).take (j + 1)))
         · (repeat (first | with_reducible exact Upd.here | with_reducible apply Upd.there))
         · rfl
         · rfl
         · (rw [hts, scs_append]; rfl)
         · (apply J.againI (s := (j, q)) (s' := (j + 1, q9)); (focus (omega)); (focus ((try dsimp only); (show j + 1 ≤ 15; omega))); (focus (((try dsimp only); repeat (first | exact sub.nil _ | (refine sub.consE rfl ?_ ?_; (first | with_reducible rfl | ((focus (congr 1; omega))) | rfl)))))); ((try dsimp only); (repeat (first | (with_reducible exact Outs.nil) | ((with_reducible apply Outs.cons); (repeat (first | with_reducible exact Out.here | with_reducible apply Out.there))))))))
      | (trace_state; fail)
  · obtain rfl : j = 15 := by omega
    have htk : (bgL seed leaf).take 15 = bgL seed leaf := List.take_of_length_le (by rw [bgL_length]; exact Nat.le_refl _)
    rw [htk]
    repeat' first
      | (refine J.qv ?_; (with_reducible apply exq); focus (first
        | ((with_reducible apply Qv.conv); exact rfl; exact wj (by omega))))
      | ((with_reducible apply J.appendR (news := [_])); exact rfl; exact rfl; (repeat (first | with_reducible exact Out.here | with_reducible apply Out.there)); exact rfl; exact RH.blk0 (by (repeat (first | with_reducible exact In.here | with_reducible apply In.there))); exact rfl; exact rfl; exact rfl; exact rfl; (simp only [maxLen]; omega); omega; intro _ _)
      | ((with_reducible apply J.givesR (bgnS seed leaf j _ _ _)); exact rfl; exact rfl; focus (exact RH.and (RH.sblk (by (repeat (first | with_reducible exact In.here | with_reducible apply In.there))) (RH.lcons (RH.bbat (by (repeat (first | with_reducible exact In.here | with_reducible apply In.there)))) (RH.lcons (RH.brow (by (repeat (first | with_reducible exact In.here | with_reducible apply In.there)))) (RH.lcons (RH.b (RH.b1 (by (repeat (first | with_reducible exact In.here | with_reducible apply In.there)))) (by rfl) (by decide)) RH.lnil)))) (RH.of ⟨rfl, hw⟩)))
      | refine J.one ?_
      | refine J.loudS ?_
      | (refine J.loudQ ?_; intro _ _)
      | (refine J.loudB ?_; intro _)
      | (with_reducible apply J.list)
      | ((with_reducible apply J.gsplit); exact rfl; exact rfl)
      | ((with_reducible first | apply J.cond | apply JC.cond); exact rfl)
      | (intro h; exfalso; (first | (simp at h; done) | (simp at h; omega) | omega))
      | (intro h; (try simp only [decide_eq_true_eq, decide_eq_false_iff_not, beq_iff_eq, beq_eq_false_iff_ne, Bool.not_eq_true', Bool.not_eq_false', bne_iff_ne, bne_eq_false_iff_eq, ne_eq, ge_iff_le, gt_iff_lt] at h))
      | (with_reducible apply J.gave')
      | ((with_reducible apply J.kept'); rotate_left; (repeat (first | (with_reducible exact Outs.nil) | ((with_reducible apply Outs.cons); (repeat (first | with_reducible exact Out.here | with_reducible apply Out.there))))))
    all_goals
      first
      | ((with_reducible apply J.freshRow); (repeat (first | with_reducible exact Out.here | with_reducible apply Out.there)); exact rfl; exact rfl; exact rfl)
      | (trace_state; fail)
theorem public_ (seed : List UInt8) (leaf : Nat) (hl : leaf ≤ 7) (w : World) (hw : seed.length ≤ 1000) : CSpec Try.prog 93 [str seed, .int .i64 (leaf : Int)] [] w (Gives (str (pubF seed leaf))) := by
  refine spec_own0 Try.func93 rfl Try.ntmps93 rfl (l0 := [(0, str seed), (1, .int .i64 (leaf : Int))]) rfl ?_
  repeat' first
    | ((with_reducible apply J.makeSlice (len := 15)); exact rfl; exact rfl; exact rfl; exact rfl; exact rfl; decide; decide; intro _)
    | ((with_reducible apply J.freshR (begin_ seed leaf hl)); exact rfl; exact rfl; (focus (exact RH.of hw)); intro _ _)
    | ((with_reducible apply J.givesR (closed_ _ _ _ (bgL seed leaf) _ _ _ (List.replicate 15 0))); exact rfl; exact rfl; focus (exact RH.and (RH.and (RH.row (by (repeat (first | with_reducible exact In.here | with_reducible apply In.there)))) (RH.zs (by (repeat (first | with_reducible exact In.here | with_reducible apply In.there))))) (RH.of ⟨(bgL_length _ _).symm, rfl, by rw [bgL_length]; rfl, by simp, bgL_le _ _, by rw [bgL_length]; decide⟩)))
    | refine J.one ?_
    | refine J.loudS ?_
    | (refine J.loudQ ?_; intro _ _)
    | (refine J.loudB ?_; intro _)
    | (with_reducible apply J.list)
    | ((with_reducible apply J.draw (id := 1) [0, 0, 3, 0, 15, 31] (.p 0 (.p 1 (.x 2 (.x 3 (.x 4 (.p 5 .nil) .none) .none) (.x 3 (.x 2 (.x 4 (.p 5 .nil) .none) .none) .none)))) (by kernel_rfl) ?_ (by kernel_rfl) ?_); (repeat (with_reducible first | exact PanicFree.body | exact PanicFree.np | exact PanicFree.lvS | apply PanicFree.then_ | apply PanicFree.blk)))
    | ((with_reducible apply J.pl2); exact rfl; (first | exact Gd.none | ((with_reducible apply Gd.on); exact rfl; exact rfl)); (repeat (first | (with_reducible exact PendF.nil) | ((with_reducible apply PendF.keep); exact rfl) | ((with_reducible apply PendF.gone); exact rfl))))
    | ((with_reducible apply J.pl2_off); exact rfl; ((with_reducible apply Gd.off); exact rfl; exact rfl; exact rfl); exact rfl; (repeat (first | (with_reducible exact PendF.nil) | ((with_reducible apply PendF.keep); exact rfl) | ((with_reducible apply PendF.gone); exact rfl))))
    | ((with_reducible apply J.pl2_off_none); exact rfl; ((with_reducible apply Gd.off); exact rfl; exact rfl; exact rfl); (repeat (first | (with_reducible exact PendF.nil) | ((with_reducible apply PendF.keep); exact rfl) | ((with_reducible apply PendF.gone); exact rfl))))
    | ((with_reducible first | apply J.psplit0 | apply J.psplit1 | apply J.psplit2); exact rfl; exact rfl; exact rfl)
    | (with_reducible exact J.pl_none)
    | ((with_reducible apply J.gsplit); exact rfl; exact rfl)
    | ((with_reducible first | apply J.cond | apply JC.cond); exact rfl)
    | (intro h; exfalso; fail)
    | (intro h; (try simp only [decide_eq_true_eq, decide_eq_false_iff_not, beq_iff_eq, beq_eq_false_iff_ne, Bool.not_eq_true', Bool.not_eq_false', bne_iff_ne, bne_eq_false_iff_eq, ne_eq, ge_iff_le, gt_iff_lt] at h))
    | (with_reducible apply J.gave')
    | ((with_reducible apply J.kept'); rotate_left; (repeat (first | (with_reducible exact Outs.nil) | ((with_reducible apply Outs.cons); (repeat (first | with_reducible exact Out.here | with_reducible apply Out.there))))))
  all_goals (rfl)
theorem row_ (seed : List UInt8) (w : World) (hw : seed.length ≤ 1000) : CSpec Try.prog 56 [str seed] [] w (Fresh 9 1 8 (scs (rowL seed)) []) := by
  refine spec_own0 Try.func56 rfl Try.ntmps56 rfl (l0 := [(0, str seed)]) rfl ?_
  repeat' first
    | refine J.one ?_
    | refine J.loudS ?_
    | (refine J.loudQ ?_; intro _ _)
    | (refine J.loudB ?_; intro _)
    | (with_reducible apply J.list)
    | ((with_reducible apply J.gsplit); exact rfl; exact rfl)
    | ((with_reducible first | apply J.cond | apply JC.cond); exact rfl)
    | (intro h; exfalso; fail)
    | (intro h; (try simp only [decide_eq_true_eq, decide_eq_false_iff_not, beq_iff_eq, beq_eq_false_iff_ne, Bool.not_eq_true', Bool.not_eq_false', bne_iff_ne, bne_eq_false_iff_eq, ne_eq, ge_iff_le, gt_iff_lt] at h))
    | (with_reducible apply J.gave')
    | ((with_reducible apply J.kept'); rotate_left; (repeat (first | (with_reducible exact Outs.nil) | ((with_reducible apply Outs.cons); (repeat (first | with_reducible exact Out.here | with_reducible apply Out.there))))))
  refine J.nilRowC 9 1 (scs ((rowL seed).take 0)) rfl ?_
  apply J.loopI (σ := (Nat × (Option Addr × Nat))) (I := fun s => (s.1 ≤ 8)) (L := fun s => [(0, str seed), (5, .int .i64 (s.1 : Int)), (3, .slice s.2.1 s.1 s.2.2)]) (HH := fun s => [row (.slice s.2.1 s.1 s.2.2) 9 1 s.1 (scs ((rowL seed).take s.1))]) (m := fun s => 8 - s.1) (s0 := (0, (none, 0)))
  · ((try dsimp only); (exact Nat.zero_le _))
  · ((try dsimp only); repeat (first | exact sub.nil _ | (refine sub.consE rfl ?_ ?_; (first | with_reducible rfl | (fail) | rfl))))
  · ((try dsimp only); (repeat (first | (with_reducible exact Outs.nil) | ((with_reducible apply Outs.cons); (repeat (first | with_reducible exact Out.here | with_reducible apply Out.there))))))
  rintro ⟨j, q⟩ hI
  try dsimp only at hI ⊢
  rcases Nat.lt_or_ge j 8 with hlt | hge
  · have hts := take_snoc (rowL_get seed hlt)
    repeat' first
      | ((with_reducible apply J.appendR (news := [_])); exact rfl; exact rfl; (repeat (first | with_reducible exact Out.here | with_reducible apply Out.there)); exact rfl; exact RH.blk0 (by (repeat (first | with_reducible exact In.here | with_reducible apply In.there))); exact rfl; exact rfl; exact rfl; exact rfl; (simp only [maxLen]; omega); omega; intro _ _)
      | ((with_reducible apply J.givesR (public_ seed j (by omega))); exact rfl; exact rfl; focus (exact RH.of hw))
      | refine J.one ?_
      | refine J.loudS ?_
      | (refine J.loudQ ?_; intro _ _)
      | (refine J.loudB ?_; intro _)
      | (with_reducible apply J.list)
      | ((with_reducible apply J.gsplit); exact rfl; exact rfl)
      | ((with_reducible first | apply J.cond | apply JC.cond); exact rfl)
      | (intro h; exfalso; (first | (simp at h; done) | (simp at h; omega) | omega))
      | (intro h; (try simp only [decide_eq_true_eq, decide_eq_false_iff_not, beq_iff_eq, beq_eq_false_iff_ne, Bool.not_eq_true', Bool.not_eq_false', bne_iff_ne, bne_eq_false_iff_eq, ne_eq, ge_iff_le, gt_iff_lt] at h))
      | (with_reducible apply J.gave')
      | ((with_reducible apply J.kept'); rotate_left; (repeat (first | (with_reducible exact Outs.nil) | ((with_reducible apply Outs.cons); (repeat (first | with_reducible exact Out.here | with_reducible apply Out.there))))))
    all_goals
      first
      | (rename_i q9 _
         apply J.reR (E := 9) (v := .slice q9.1 (j + 1) q9.2) (n := j + 1) (C := scs ((rowL seed).take j) ++ [str (pubF seed j)]) (v' := .slice q9.1 (j + 1) q9.2) (n' := j + 1) (C' := scs ((rowL seed).take (j + 1)))
         · (repeat (first | with_reducible exact Upd.here | with_reducible apply Upd.there))
         · rfl
         · rfl
         · (rw [hts, scs_append]; rfl)
         · (apply J.againI (s := (j, q)) (s' := (j + 1, q9)); (focus (omega)); (focus ((try dsimp only); (show j + 1 ≤ 8; omega))); (focus (((try dsimp only); repeat (first | exact sub.nil _ | (refine sub.consE rfl ?_ ?_; (first | with_reducible rfl | ((focus (congr 1; omega))) | rfl)))))); ((try dsimp only); (repeat (first | (with_reducible exact Outs.nil) | ((with_reducible apply Outs.cons); (repeat (first | with_reducible exact Out.here | with_reducible apply Out.there))))))))
      | (trace_state; fail)
  · obtain rfl : j = 8 := by omega
    have htk : (rowL seed).take 8 = rowL seed := List.take_of_length_le (by rw [rowL_length]; exact Nat.le_refl _)
    rw [htk]
    repeat' first
      | refine J.one ?_
      | refine J.loudS ?_
      | (refine J.loudQ ?_; intro _ _)
      | (refine J.loudB ?_; intro _)
      | (with_reducible apply J.list)
      | ((with_reducible apply J.gsplit); exact rfl; exact rfl)
      | ((with_reducible first | apply J.cond | apply JC.cond); exact rfl)
      | (intro h; exfalso; (first | (simp at h; done) | (simp at h; omega) | omega))
      | (intro h; (try simp only [decide_eq_true_eq, decide_eq_false_iff_not, beq_iff_eq, beq_eq_false_iff_ne, Bool.not_eq_true', Bool.not_eq_false', bne_iff_ne, bne_eq_false_iff_eq, ne_eq, ge_iff_le, gt_iff_lt] at h))
      | (with_reducible apply J.gave')
      | ((with_reducible apply J.kept'); rotate_left; (repeat (first | (with_reducible exact Outs.nil) | ((with_reducible apply Outs.cons); (repeat (first | with_reducible exact Out.here | with_reducible apply Out.there))))))
    all_goals
      first
      | ((with_reducible apply J.freshRow); (repeat (first | with_reducible exact Out.here | with_reducible apply Out.there)); exact rfl; exact rfl; exact rfl)
      | (trace_state; fail)
theorem join_ (a b : List UInt8) (w : World) (hw : a.length + b.length ≤ 1099511627776) : CSpec Try.prog 94 [str a, str b] [] w (Gives (str (short (a ++ b)))) := by
  refine spec_own0 Try.func94 rfl Try.ntmps94 rfl (l0 := [(0, str a), (1, str b)]) rfl ?_
  repeat' first
    | ((with_reducible apply J.givesR (short_ _ _ _ [a, b])); exact rfl; exact rfl; focus (exact RH.and (RH.sblk (by (repeat (first | with_reducible exact In.here | with_reducible apply In.there))) (RH.lcons (RH.bbat (by (repeat (first | with_reducible exact In.here | with_reducible apply In.there)))) (RH.lcons (RH.bbat (by (repeat (first | with_reducible exact In.here | with_reducible apply In.there)))) RH.lnil))) (RH.of ⟨rfl, by simp; omega, by simp⟩)))
    | refine J.one ?_
    | refine J.loudS ?_
    | (refine J.loudQ ?_; intro _ _)
    | (refine J.loudB ?_; intro _)
    | (with_reducible apply J.list)
    | ((with_reducible apply J.gsplit); exact rfl; exact rfl)
    | ((with_reducible first | apply J.cond | apply JC.cond); exact rfl)
    | (intro h; exfalso; fail)
    | (intro h; (try simp only [decide_eq_true_eq, decide_eq_false_iff_not, beq_iff_eq, beq_eq_false_iff_ne, Bool.not_eq_true', Bool.not_eq_false', bne_iff_ne, bne_eq_false_iff_eq, ne_eq, ge_iff_le, gt_iff_lt] at h))
    | (with_reducible apply J.gave')
    | ((with_reducible apply J.kept'); rotate_left; (repeat (first | (with_reducible exact Outs.nil) | ((with_reducible apply Outs.cons); (repeat (first | with_reducible exact Out.here | with_reducible apply Out.there))))))
  all_goals ((first | rfl | (simp [retv]; done) | (simp only [retv, List.flatten_cons, List.flatten_nil, List.append_nil]; rfl)))
theorem above_ (ao : Option Addr) (n cap : Nat) (L : List (List UInt8)) (m : Nat) (w : World) (hw : Rd w ao (scs L) ∧ n = 2 * m ∧ L.length = 2 * m ∧ (∀ x, x ∈ L → x.length ≤ 8) ∧ 1 ≤ m ∧ m ≤ 1000) : CSpec Try.prog 57 [.slice ao n cap] [] w (Fresh 9 1 m (scs (abv L)) []) := by
  obtain ⟨hr, rfl, hln, h8, hm0, hm⟩ := hw
  have hal := abv_length hln
  have hao : ao.isSome = true := hr.isSome (by
    intro e
    have h9 := scs_length L
    rw [e] at h9
    simp at h9
    omega)
  refine spec_own0 Try.func57 rfl Try.ntmps57 rfl (l0 := [(0, .slice ao (2 * m) cap)]) rfl ?_
  repeat' first
    | refine J.one ?_
    | refine J.loudS ?_
    | (refine J.loudQ ?_; intro _ _)
    | (refine J.loudB ?_; intro _)
    | (with_reducible apply J.list)
    | ((with_reducible apply J.draw (id := 5) [0, 0, 0, 6, 14, 0, 0, 64, 224, 480, 1022, 2046, 4095, 8191] (.p 0 (.p 1 (.p 2 (.p 3 (.q 4 (.p 5 (.p 6 (.p 7 (.p 8 (.q 9 (.x 10 (.x 11 (.x 12 (.p 13 .nil) .none) .none) .none))))))))))) (by kernel_rfl) ?_ (by kernel_rfl) ?_); (repeat (with_reducible first | exact PanicFree.body | exact PanicFree.np | exact PanicFree.lvS | apply PanicFree.then_ | apply PanicFree.blk)))
    | ((with_reducible apply J.pl2); exact rfl; (first | exact Gd.none | ((with_reducible apply Gd.on); exact rfl; exact rfl)); (repeat (first | (with_reducible exact PendF.nil) | ((with_reducible apply PendF.keep); exact rfl) | ((with_reducible apply PendF.gone); exact rfl))))
    | ((with_reducible apply J.pl2_off); exact rfl; ((with_reducible apply Gd.off); exact rfl; exact rfl; exact rfl); exact rfl; (repeat (first | (with_reducible exact PendF.nil) | ((with_reducible apply PendF.keep); exact rfl) | ((with_reducible apply PendF.gone); exact rfl))))
    | ((with_reducible apply J.pl2_off_none); exact rfl; ((with_reducible apply Gd.off); exact rfl; exact rfl; exact rfl); (repeat (first | (with_reducible exact PendF.nil) | ((with_reducible apply PendF.keep); exact rfl) | ((with_reducible apply PendF.gone); exact rfl))))
    | ((with_reducible first | apply J.psplit0 | apply J.psplit1 | apply J.psplit2); exact rfl; exact rfl; exact rfl)
    | (with_reducible exact J.pl_none)
    | ((with_reducible apply J.gsplit); exact rfl; exact rfl)
    | ((with_reducible first | apply J.cond | apply JC.cond); exact rfl)
    | (intro h; exfalso; fail)
    | (intro h; (try simp only [decide_eq_true_eq, decide_eq_false_iff_not, beq_iff_eq, beq_eq_false_iff_ne, Bool.not_eq_true', Bool.not_eq_false', bne_iff_ne, bne_eq_false_iff_eq, ne_eq, ge_iff_le, gt_iff_lt] at h))
    | (with_reducible apply J.gave')
    | ((with_reducible apply J.kept'); rotate_left; (repeat (first | (with_reducible exact Outs.nil) | ((with_reducible apply Outs.cons); (repeat (first | with_reducible exact Out.here | with_reducible apply Out.there))))))
  refine J.nilRowC 9 1 (scs ((abv L).take 0)) rfl ?_
  apply J.loopI (σ := (Nat × (Option Addr × Nat))) (I := fun s => (s.1 ≤ m)) (L := fun s => [(0, .slice ao (2 * m) cap), (4, .int .i64 ((2 * s.1 : Nat) : Int)), (3, .slice s.2.1 s.1 s.2.2)]) (HH := fun s => [row (.slice s.2.1 s.1 s.2.2) 9 1 s.1 (scs ((abv L).take s.1))]) (m := fun s => m - s.1) (s0 := (0, (none, 0)))
  · ((try dsimp only); (exact Nat.zero_le _))
  · ((try dsimp only); repeat (first | exact sub.nil _ | (refine sub.consE rfl ?_ ?_; (first | with_reducible rfl | (fail) | rfl))))
  · ((try dsimp only); (repeat (first | (with_reducible exact Outs.nil) | ((with_reducible apply Outs.cons); (repeat (first | with_reducible exact Out.here | with_reducible apply Out.there))))))
  rintro ⟨k, q⟩ hI
  try dsimp only at hI ⊢
  rcases Nat.lt_or_ge k m with hlt | hge
  · obtain ⟨a, ha⟩ : ∃ a, L[2 * k]? = some a := ⟨_, List.getElem?_eq_getElem (by omega)⟩
    obtain ⟨b, hb⟩ : ∃ b, L[2 * k + 1]? = some b := ⟨_, List.getElem?_eq_getElem (by omega)⟩
    have ha8 := h8 a (List.mem_of_getElem? ha)
    have hb8 := h8 b (List.mem_of_getElem? hb)
    have hts := take_snoc (abv_get ha hb)
    repeat' first
      | (refine J.qv ?_; (with_reducible apply exq); focus (first
        | ((with_reducible apply Qv.indexSrcs (ao := ao) (k := 2 * k)); exact rfl; exact rfl; (focus omega); (focus (constructor <;> omega)); exact hao)
        | ((with_reducible apply Qv.indexSrcs (ao := ao) (k := 2 * k + 1)); exact rfl; exact rfl; (focus omega); (focus (constructor <;> omega)); exact hao)
        | ((with_reducible apply Qv.add); exact rfl; exact rfl; exact wr64 (z := ((2 * (k + 1) : Nat) : Int)) (by omega) (by omega) (by omega))
        | ((with_reducible apply Qv.add); exact rfl; exact rfl; exact wr64 (z := ((2 * k + 1 : Nat) : Int)) (by omega) (by omega) (by omega))))
      | (refine J.qr ?_; (with_reducible apply exq); focus (first
        | ((with_reducible apply Qr.rd1 (C := scs L) (j := (2 * k) * 1)); exact rfl; exact RH.old hr; (rw [Nat.mul_one]; exact scs_get ha))
        | ((with_reducible apply Qr.rd1 (C := scs L) (j := (2 * k + 1) * 1)); exact rfl; exact RH.old hr; (rw [Nat.mul_one]; exact scs_get hb))))
      | (refine J.qo ?_; refine ⟨?_, ?_⟩; focus (first
        | ((with_reducible apply Qr.rd1 (C := scs L) (j := (2 * k) * 1)); exact rfl; exact RH.old hr; (rw [Nat.mul_one]; exact scs_get ha))
        | ((with_reducible apply Qr.rd1 (C := scs L) (j := (2 * k + 1) * 1)); exact rfl; exact RH.old hr; (rw [Nat.mul_one]; exact scs_get hb))))
      | ((with_reducible apply J.appendR (news := [_])); exact rfl; exact rfl; (repeat (first | with_reducible exact Out.here | with_reducible apply Out.there)); exact rfl; exact RH.blk0 (by (repeat (first | with_reducible exact In.here | with_reducible apply In.there))); exact rfl; exact rfl; exact rfl; exact rfl; (simp only [maxLen]; omega); omega; intro _ _)
      | ((with_reducible apply J.givesR (join_ a b)); exact rfl; exact rfl; focus (exact RH.of (by omega)))
      | refine J.one ?_
      | refine J.loudS ?_
      | (refine J.loudQ ?_; intro _ _)
      | (refine J.loudB ?_; intro _)
      | (with_reducible apply J.list)
      | ((with_reducible apply J.draw (id := 5) [0, 0, 0, 6, 14, 0, 0, 64, 224, 480, 1022, 2046, 4095, 8191] (.p 0 (.p 1 (.p 2 (.p 3 (.q 4 (.p 5 (.p 6 (.p 7 (.p 8 (.q 9 (.x 10 (.x 11 (.x 12 (.p 13 .nil) .none) .none) .none))))))))))) (by kernel_rfl) ?_ (by kernel_rfl) ?_); (repeat (with_reducible first | exact PanicFree.body | exact PanicFree.np | exact PanicFree.lvS | apply PanicFree.then_ | apply PanicFree.blk)))
      | ((with_reducible apply J.pl2); exact rfl; (first | exact Gd.none | ((with_reducible apply Gd.on); exact rfl; exact rfl)); (repeat (first | (with_reducible exact PendF.nil) | ((with_reducible apply PendF.keep); exact rfl) | ((with_reducible apply PendF.gone); exact rfl))))
      | ((with_reducible apply J.pl2_off); exact rfl; ((with_reducible apply Gd.off); exact rfl; exact rfl; exact rfl); exact rfl; (repeat (first | (with_reducible exact PendF.nil) | ((with_reducible apply PendF.keep); exact rfl) | ((with_reducible apply PendF.gone); exact rfl))))
      | ((with_reducible apply J.pl2_off_none); exact rfl; ((with_reducible apply Gd.off); exact rfl; exact rfl; exact rfl); (repeat (first | (with_reducible exact PendF.nil) | ((with_reducible apply PendF.keep); exact rfl) | ((with_reducible apply PendF.gone); exact rfl))))
      | ((with_reducible first | apply J.psplit0 | apply J.psplit1 | apply J.psplit2); exact rfl; exact rfl; exact rfl)
      | (with_reducible exact J.pl_none)
      | ((with_reducible apply J.gsplit); exact rfl; exact rfl)
      | ((with_reducible first | apply J.cond | apply JC.cond); exact rfl)
      | (intro h; exfalso; (first | (simp at h; done) | (simp at h; omega) | omega))
      | (intro h; (try simp only [decide_eq_true_eq, decide_eq_false_iff_not, beq_iff_eq, beq_eq_false_iff_ne, Bool.not_eq_true', Bool.not_eq_false', bne_iff_ne, bne_eq_false_iff_eq, ne_eq, ge_iff_le, gt_iff_lt] at h))
      | (with_reducible apply J.gave')
      | ((with_reducible apply J.kept'); rotate_left; (repeat (first | (with_reducible exact Outs.nil) | ((with_reducible apply Outs.cons); (repeat (first | with_reducible exact Out.here | with_reducible apply Out.there))))))
    all_goals
      first
      | (rename_i q9 _
         apply J.reR (E := 9) (v := .slice q9.1 (k + 1) q9.2) (n := k + 1) (C := scs ((abv L).take k) ++ [str (short (a ++ b))]) (v' := .slice q9.1 (k + 1) q9.2) (n' := k + 1) (C' := scs ((abv L).take (k + 1)))
         · (repeat (first | with_reducible exact Upd.here | with_reducible apply Upd.there))
         · rfl
         · rfl
         · (rw [hts, scs_append]; rfl)
         · (apply J.againI (s := (k, q)) (s' := (k + 1, q9)); (focus (omega)); (focus ((try dsimp only); (show k + 1 ≤ m; omega))); (focus (((try dsimp only); repeat (first | exact sub.nil _ | (refine sub.consE rfl ?_ ?_; (first | with_reducible rfl | ((focus (congr 1; omega))) | rfl)))))); ((try dsimp only); (repeat (first | (with_reducible exact Outs.nil) | ((with_reducible apply Outs.cons); (repeat (first | with_reducible exact Out.here | with_reducible apply Out.there))))))))
      | (trace_state; fail)
  · obtain rfl : k = m := by omega
    have htk : (abv L).take k = abv L := List.take_of_length_le (by omega)
    rw [htk]
    repeat' first
      | (refine J.qv ?_; (with_reducible apply exq); focus (first
        | ((with_reducible apply Qv.indexSrcs (ao := ao) (k := 2 * k)); exact rfl; exact rfl; (focus omega); (focus (constructor <;> omega)); exact hao)
        | ((with_reducible apply Qv.indexSrcs (ao := ao) (k := 2 * k + 1)); exact rfl; exact rfl; (focus omega); (focus (constructor <;> omega)); exact hao)
        | ((with_reducible apply Qv.add); exact rfl; exact rfl; exact wr64 (z := ((2 * (k + 1) : Nat) : Int)) (by omega) (by omega) (by omega))
        | ((with_reducible apply Qv.add); exact rfl; exact rfl; exact wr64 (z := ((2 * k + 1 : Nat) : Int)) (by omega) (by omega) (by omega))))
      | (refine J.qr ?_; (with_reducible apply exq); focus (first
        | ((with_reducible apply Qr.rd1 (C := scs L) (j := (2 * k) * 1)); exact rfl; exact RH.old hr; (rw [Nat.mul_one]; exact scs_get ha))
        | ((with_reducible apply Qr.rd1 (C := scs L) (j := (2 * k + 1) * 1)); exact rfl; exact RH.old hr; (rw [Nat.mul_one]; exact scs_get hb))))
      | (refine J.qo ?_; refine ⟨?_, ?_⟩; focus (first
        | ((with_reducible apply Qr.rd1 (C := scs L) (j := (2 * k) * 1)); exact rfl; exact RH.old hr; (rw [Nat.mul_one]; exact scs_get ha))
        | ((with_reducible apply Qr.rd1 (C := scs L) (j := (2 * k + 1) * 1)); exact rfl; exact RH.old hr; (rw [Nat.mul_one]; exact scs_get hb))))
      | ((with_reducible apply J.appendR (news := [_])); exact rfl; exact rfl; (repeat (first | with_reducible exact Out.here | with_reducible apply Out.there)); exact rfl; exact RH.blk0 (by (repeat (first | with_reducible exact In.here | with_reducible apply In.there))); exact rfl; exact rfl; exact rfl; exact rfl; (simp only [maxLen]; omega); omega; intro _ _)
      | ((with_reducible apply J.givesR (join_ a b)); exact rfl; exact rfl; focus (exact RH.of (by omega)))
      | refine J.one ?_
      | refine J.loudS ?_
      | (refine J.loudQ ?_; intro _ _)
      | (refine J.loudB ?_; intro _)
      | (with_reducible apply J.list)
      | ((with_reducible apply J.draw (id := 5) [0, 0, 0, 6, 14, 0, 0, 64, 224, 480, 1022, 2046, 4095, 8191] (.p 0 (.p 1 (.p 2 (.p 3 (.q 4 (.p 5 (.p 6 (.p 7 (.p 8 (.q 9 (.x 10 (.x 11 (.x 12 (.p 13 .nil) .none) .none) .none))))))))))) (by kernel_rfl) ?_ (by kernel_rfl) ?_); (repeat (with_reducible first | exact PanicFree.body | exact PanicFree.np | exact PanicFree.lvS | apply PanicFree.then_ | apply PanicFree.blk)))
      | ((with_reducible apply J.pl2); exact rfl; (first | exact Gd.none | ((with_reducible apply Gd.on); exact rfl; exact rfl)); (repeat (first | (with_reducible exact PendF.nil) | ((with_reducible apply PendF.keep); exact rfl) | ((with_reducible apply PendF.gone); exact rfl))))
      | ((with_reducible apply J.pl2_off); exact rfl; ((with_reducible apply Gd.off); exact rfl; exact rfl; exact rfl); exact rfl; (repeat (first | (with_reducible exact PendF.nil) | ((with_reducible apply PendF.keep); exact rfl) | ((with_reducible apply PendF.gone); exact rfl))))
      | ((with_reducible apply J.pl2_off_none); exact rfl; ((with_reducible apply Gd.off); exact rfl; exact rfl; exact rfl); (repeat (first | (with_reducible exact PendF.nil) | ((with_reducible apply PendF.keep); exact rfl) | ((with_reducible apply PendF.gone); exact rfl))))
      | ((with_reducible first | apply J.psplit0 | apply J.psplit1 | apply J.psplit2); exact rfl; exact rfl; exact rfl)
      | (with_reducible exact J.pl_none)
      | ((with_reducible apply J.gsplit); exact rfl; exact rfl)
      | ((with_reducible first | apply J.cond | apply JC.cond); exact rfl)
      | (intro h; exfalso; (first | (simp at h; done) | (simp at h; omega) | omega))
      | (intro h; (try simp only [decide_eq_true_eq, decide_eq_false_iff_not, beq_iff_eq, beq_eq_false_iff_ne, Bool.not_eq_true', Bool.not_eq_false', bne_iff_ne, bne_eq_false_iff_eq, ne_eq, ge_iff_le, gt_iff_lt] at h))
      | (with_reducible apply J.gave')
      | ((with_reducible apply J.kept'); rotate_left; (repeat (first | (with_reducible exact Outs.nil) | ((with_reducible apply Outs.cons); (repeat (first | with_reducible exact Out.here | with_reducible apply Out.there))))))
    all_goals
      first
      | ((with_reducible apply J.freshRow); (repeat (first | with_reducible exact Out.here | with_reducible apply Out.there)); exact rfl; exact rfl; exact rfl)
      | (trace_state; fail)
theorem rowL_le (seed : List UInt8) : ∀ x, x ∈ rowL seed → x.length ≤ 8 := by
  intro x hx
  simp only [rowL, List.mem_map] at hx
  obtain ⟨i, _, rfl⟩ := hx
  exact Nat.le_of_eq (pubF_length _ _)
theorem top_get (seed : List UInt8) : (scs (abv (abv (abv (rowL seed)))))[0]? = some (str (rootF seed)) := rfl
theorem top_pos (seed : List UInt8) : 0 < (scs (abv (abv (abv (rowL seed))))).length := (List.getElem?_eq_some_iff.1 (top_get seed)).1
theorem root_ (seed : List UInt8) (w : World) (hw : seed.length ≤ 1000) : CSpec Try.prog 27 [str seed] [] w (Gives (str (rootF seed))) := by
  refine spec_own0 Try.func27 rfl Try.ntmps27 rfl (l0 := [(0, str seed)]) rfl ?_
  repeat' first
    | (with_reducible refine J.rounds 4 ?_)
    | (with_reducible apply J.round)
    | (refine J.qr ?_; (with_reducible apply exq); focus (first
      | ((with_reducible apply Qr.indexRd (k := 0) (C := scs (abv (abv (abv (rowL seed)))))); exact rfl; exact rfl; exact rfl; decide; exact RH.row (by (repeat (first | with_reducible exact In.here | with_reducible apply In.there))); exact top_pos seed)
      | ((with_reducible apply Qr.rd1 (C := scs (abv (abv (abv (rowL seed)))))); exact rfl; exact RH.row (by (repeat (first | with_reducible exact In.here | with_reducible apply In.there))); exact top_get seed)))
    | ((with_reducible apply J.freshR (row_ seed)); exact rfl; exact rfl; (focus (exact RH.of hw)); intro _ _)
    | ((with_reducible apply J.freshR (above_ _ _ _ (rowL seed) 4)); exact rfl; exact rfl; (focus (exact RH.and (RH.row (by (repeat (first | with_reducible exact In.here | with_reducible apply In.there)))) (RH.of ⟨rfl, rowL_length _, rowL_le _, by decide, by decide⟩))); intro _ _)
    | ((with_reducible apply J.freshR (above_ _ _ _ (abv (rowL seed)) 2)); exact rfl; exact rfl; (focus (exact RH.and (RH.row (by (repeat (first | with_reducible exact In.here | with_reducible apply In.there)))) (RH.of ⟨rfl, abv_length (m := 4) (rowL_length _), fun x hx => Nat.le_of_eq (abv_le hx), by decide, by decide⟩))); intro _ _)
    | ((with_reducible apply J.freshR (above_ _ _ _ (abv (abv (rowL seed))) 1)); exact rfl; exact rfl; (focus (exact RH.and (RH.row (by (repeat (first | with_reducible exact In.here | with_reducible apply In.there)))) (RH.of ⟨rfl, abv_length (m := 2) (abv_length (m := 4) (rowL_length _)), fun x hx => Nat.le_of_eq (abv_le hx), by decide, by decide⟩))); intro _ _)
    | refine J.one ?_
    | refine J.loudS ?_
    | (refine J.loudQ ?_; intro _ _)
    | (refine J.loudB ?_; intro _)
    | (with_reducible apply J.list)
    | ((with_reducible apply J.gsplit); exact rfl; exact rfl)
    | ((with_reducible first | apply J.cond | apply JC.cond); exact rfl)
    | (intro h; exfalso; (first | (revert h; decide) | (simp at h; done)))
    | (intro h; (try simp only [decide_eq_true_eq, decide_eq_false_iff_not, beq_iff_eq, beq_eq_false_iff_ne, Bool.not_eq_true', Bool.not_eq_false', bne_iff_ne, bne_eq_false_iff_eq, ne_eq, ge_iff_le, gt_iff_lt] at h))
    | (with_reducible apply J.gave')
    | ((with_reducible apply J.kept'); rotate_left; (repeat (first | (with_reducible exact Outs.nil) | ((with_reducible apply Outs.cons); (repeat (first | with_reducible exact Out.here | with_reducible apply Out.there))))))
  all_goals (rfl)
end Go.Proofs.Ytfcaeifpclpnoaa.Mrt
namespace Go.Proofs.Ytfcaeifpclpnoaa.Mrr
open Go Go.RowKit Eng
set_option linter.unusedVariables false
set_option maxRecDepth 100000
set_option linter.unusedSimpArgs false
open Sha Iter Hash Bytes Hsum Ots Rsum Rovr Mrt
set_option maxHeartbeats 1000000
theorem rwalk_ (s : List UInt8) (k : Nat) (w : World) (hw : k ≤ 3 ∧ s.length ≤ 1099511620000) : CSpec Try.prog 117 [str s, .int .i64 (k : Int)] [] w (Gives (str (wk s k))) := by
  obtain ⟨h3, hl⟩ := hw
  refine spec_own0 Try.func117 rfl Try.ntmps117 rfl (l0 := [(0, str s), (1, .int .i64 (k : Int))]) rfl ?_
  repeat' first
    | ((with_reducible apply J.givesR (rshort (wk s i))); exact rfl; exact rfl; focus (exact RH.of (by omega)))
    | refine J.one ?_
    | refine J.loudS ?_
    | (refine J.loudQ ?_; intro _ _)
    | (refine J.loudB ?_; intro _)
    | (with_reducible apply J.list)
    | ((with_reducible apply J.gsplit); exact rfl; exact rfl)
    | ((with_reducible first | apply J.cond | apply JC.cond); exact rfl)
    | (intro h; exfalso; (first | (simp at h; done) | (simp at h; omega) | omega))
    | (intro h; (try simp only [decide_eq_true_eq, decide_eq_false_iff_not, beq_iff_eq, beq_eq_false_iff_ne, Bool.not_eq_true', Bool.not_eq_false', bne_iff_ne, bne_eq_false_iff_eq, ne_eq, ge_iff_le, gt_iff_lt] at h))
    | (with_reducible apply J.gave')
    | ((with_reducible apply J.kept'); rotate_left; (repeat (first | (with_reducible exact Outs.nil) | ((with_reducible apply Outs.cons); (repeat (first | with_reducible exact Out.here | with_reducible apply Out.there))))))
  apply J.loopI (σ := Nat) (I := fun q => (q ≤ k)) (L := fun q => [(0, str (wk s q)), (1, .int .i64 (k : Int)), (5, .int .i64 (q : Int))]) (HH := fun q => []) (m := fun q => k - q) (s0 := 0)
  · ((try dsimp only); (exact Nat.zero_le _))
  · ((try dsimp only); repeat (first | exact sub.nil _ | (refine sub.consE rfl ?_ ?_; (first | with_reducible rfl | (fail) | rfl))))
  · ((try dsimp only); (repeat (first | (with_reducible exact Outs.nil) | ((with_reducible apply Outs.cons); (repeat (first | with_reducible exact Out.here | with_reducible apply Out.there))))))
  rintro i hI
  try dsimp only at hI ⊢
  have hwl := wk_le hl (by omega) i
  repeat' first
    | ((with_reducible apply J.givesR (rshort (wk s i))); exact rfl; exact rfl; focus (exact RH.of (by omega)))
    | refine J.one ?_
    | refine J.loudS ?_
    | (refine J.loudQ ?_; intro _ _)
    | (refine J.loudB ?_; intro _)
    | (with_reducible apply J.list)
    | ((with_reducible apply J.gsplit); exact rfl; exact rfl)
    | ((with_reducible first | apply J.cond | apply JC.cond); exact rfl)
    | (intro h; exfalso; (first | (simp at h; done) | (simp at h; omega) | omega))
    | (intro h; (try simp only [decide_eq_true_eq, decide_eq_false_iff_not, beq_iff_eq, beq_eq_false_iff_ne, Bool.not_eq_true', Bool.not_eq_false', bne_iff_ne, bne_eq_false_iff_eq, ne_eq, ge_iff_le, gt_iff_lt] at h))
    | (with_reducible apply J.gave')
    | ((with_reducible apply J.kept'); rotate_left; (repeat (first | (with_reducible exact Outs.nil) | ((with_reducible apply Outs.cons); (repeat (first | with_reducible exact Out.here | with_reducible apply Out.there))))))
  all_goals
    first
    | (have e0 : i = k := by omega
       subst e0
       rfl)
    | (apply J.againI (s := i) (s' := (i + 1)); (focus (omega)); (focus ((try dsimp only); omega)); (focus (((try dsimp only); repeat (first | exact sub.nil _ | (refine sub.consE rfl ?_ ?_; (first | with_reducible rfl | ((focus (congr 1; omega))) | rfl)))))); ((try dsimp only); (repeat (first | (with_reducible exact Outs.nil) | ((with_reducible apply Outs.cons); (repeat (first | with_reducible exact Out.here | with_reducible apply Out.there)))))))
    | (trace_state; fail)
theorem rbegin_ (seed : List UInt8) (leaf : Nat) (hl : leaf ≤ 7) (w : World) (hw : seed.length ≤ 1000) : CSpec Try.prog 116 [str seed, .int .i64 (leaf : Int)] [] w (Fresh 9 1 15 (scs (bgL seed leaf)) []) := by
  refine spec_own0 Try.func116 rfl Try.ntmps116 rfl (l0 := [(0, str seed), (1, .int .i64 (leaf : Int))]) rfl ?_
  repeat' first
    | refine J.one ?_
    | refine J.loudS ?_
    | (refine J.loudQ ?_; intro _ _)
    | (refine J.loudB ?_; intro _)
    | (with_reducible apply J.list)
    | ((with_reducible apply J.draw (id := 6) [0, 0, 0, 4, 12, 30, 0, 64, 192, 448, 1022, 2046, 4094, 8191, 16383] (.p 0 (.p 1 (.p 2 (.p 6 (.p 7 (.x 3 (.q 4 (.p 5 (.x 8 (.q 9 (.p 10 (.x 11 (.x 12 (.x 13 (.p 14 .nil) .none) .none) .none))) .none))) (.x 8 (.q 9 (.x 3 (.q 4 (.p 5 (.p 10 (.x 11 (.x 12 (.x 13 (.p 14 .nil) .none) .none) .none)))) .none)) .none))))))) (by kernel_rfl) ?_ (by kernel_rfl) ?_); (repeat (with_reducible first | exact PanicFree.body | exact PanicFree.np | exact PanicFree.lvS | apply PanicFree.then_ | apply PanicFree.blk)))
    | ((with_reducible apply J.pl2); exact rfl; (first | exact Gd.none | ((with_reducible apply Gd.on); exact rfl; exact rfl)); (repeat (first | (with_reducible exact PendF.nil) | ((with_reducible apply PendF.keep); exact rfl) | ((with_reducible apply PendF.gone); exact rfl))))
    | ((with_reducible apply J.pl2_off); exact rfl; ((with_reducible apply Gd.off); exact rfl; exact rfl; exact rfl); exact rfl; (repeat (first | (with_reducible exact PendF.nil) | ((with_reducible apply PendF.keep); exact rfl) | ((with_reducible apply PendF.gone); exact rfl))))
    | ((with_reducible apply J.pl2_off_none); exact rfl; ((with_reducible apply Gd.off); exact rfl; exact rfl; exact rfl); (repeat (first | (with_reducible exact PendF.nil) | ((with_reducible apply PendF.keep); exact rfl) | ((with_reducible apply PendF.gone); exact rfl))))
    | ((with_reducible first | apply J.psplit0 | apply J.psplit1 | apply J.psplit2); exact rfl; exact rfl; exact rfl)
    | (with_reducible exact J.pl_none)
    | ((with_reducible apply J.gsplit); exact rfl; exact rfl)
    | ((with_reducible first | apply J.cond | apply JC.cond); exact rfl)
    | (intro h; exfalso; fail)
    | (intro h; (try simp only [decide_eq_true_eq, decide_eq_false_iff_not, beq_iff_eq, beq_eq_false_iff_ne, Bool.not_eq_true', Bool.not_eq_false', bne_iff_ne, bne_eq_false_iff_eq, ne_eq, ge_iff_le, gt_iff_lt] at h))
    | (with_reducible apply J.gave')
    | ((with_reducible apply J.kept'); rotate_left; (repeat (first | (with_reducible exact Outs.nil) | ((with_reducible apply Outs.cons); (repeat (first | with_reducible exact Out.here | with_reducible apply Out.there))))))
  refine J.nilRowC 9 1 (scs ((bgL seed leaf).take 0)) rfl ?_
  apply J.loopI (σ := (Nat × (Option Addr × Nat))) (I := fun s => (s.1 ≤ 15)) (L := fun s => [(0, str seed), (1, .int .i64 (imin (imax (leaf : Int) 0) 65535)), (6, .int .i64 (s.1 : Int)), (5, .slice s.2.1 s.1 s.2.2)]) (HH := fun s => [row (.slice s.2.1 s.1 s.2.2) 9 1 s.1 (scs ((bgL seed leaf).take s.1))]) (m := fun s => 15 - s.1) (s0 := (0, (none, 0)))
  · ((try dsimp only); (exact Nat.zero_le _))
  · ((try dsimp only); repeat (first | exact sub.nil _ | (refine sub.consE rfl ?_ ?_; (first | with_reducible rfl | (fail) | rfl))))
  · ((try dsimp only); (repeat (first | (with_reducible exact Outs.nil) | ((with_reducible apply Outs.cons); (repeat (first | with_reducible exact Out.here | with_reducible apply Out.there))))))
  rintro ⟨j, q⟩ hI
  try dsimp only at hI ⊢
  rcases Nat.lt_or_ge j 15 with hlt | hge
  · have hts := take_snoc (bgL_get seed leaf hlt)
    repeat' first
      | (refine J.qv ?_; (with_reducible apply exq); focus (first
        | ((with_reducible apply Qv.conv); exact rfl; exact wj (by omega))
        | ((with_reducible apply Qv.concat); exact rfl; exact rfl; (focus (simp only [List.length_append, num_length, List.length_cons, List.length_nil]; omega)))))
      | (refine J.qr ?_; (with_reducible apply exq); focus (first
        | ((with_reducible apply Qr.toStr); exact rfl; (with_reducible apply RH.row; (repeat (first | with_reducible exact In.here | with_reducible apply In.there))); exact (num_length _ _).symm)
        | ((with_reducible apply Qr.toStr); exact rfl; (exact RH.b1 (x := UInt8.ofNat j) (by (repeat (first | with_reducible exact In.here | with_reducible apply In.there)))); rfl)))
      | (refine J.qo ?_; refine ⟨?_, ?_⟩; focus (first
        | ((with_reducible apply Qr.toStr); exact rfl; (with_reducible apply RH.row; (repeat (first | with_reducible exact In.here | with_reducible apply In.there))); exact (num_length _ _).symm)
        | ((with_reducible apply Qr.toStr); exact rfl; (exact RH.b1 (x := UInt8.ofNat j) (by (repeat (first | with_reducible exact In.here | with_reducible apply In.there)))); rfl)))
      | ((with_reducible apply J.appendR (news := [_])); exact rfl; exact rfl; (repeat (first | with_reducible exact Out.here | with_reducible apply Out.there)); exact rfl; exact RH.blk0 (by (repeat (first | with_reducible exact In.here | with_reducible apply In.there))); exact rfl; exact rfl; exact rfl; exact rfl; (simp only [maxLen]; omega); omega; intro _ _)
      | ((with_reducible apply J.freshR (rnumL leaf hl)); exact rfl; exact rfl; (focus (exact RH.true_)); intro _ _)
      | ((with_reducible apply J.givesR (rshort (seed ++ num leaf 2 ++ [UInt8.ofNat j]))); exact rfl; exact rfl; focus (exact RH.of (by simp [num_length]; omega)))
      | refine J.one ?_
      | refine J.loudS ?_
      | (refine J.loudQ ?_; intro _ _)
      | (refine J.loudB ?_; intro _)
      | (with_reducible apply J.list)
      | ((with_reducible apply J.draw (id := 6) [0, 0, 0, 4, 12, 30, 0, 64, 192, 448, 1022, 2046, 4094, 8191, 16383] (.p 0 (.p 1 (.p 2 (.p 6 (.p 7 (.x 3 (.q 4 (.p 5 (.x 8 (.q 9 (.p 10 (.x 11 (.x 12 (.x 13 (.p 14 .nil) .none) .none) .none))) .none))) (.x 8 (.q 9 (.x 3 (.q 4 (.p 5 (.p 10 (.x 11 (.x 12 (.x 13 (.p 14 .nil) .none) .none) .none)))) .none)) .none))))))) (by kernel_rfl) ?_ (by kernel_rfl) ?_); (repeat (with_reducible first | exact PanicFree.body | exact PanicFree.np | exact PanicFree.lvS | apply PanicFree.then_ | apply PanicFree.blk)))
      | ((with_reducible apply J.pl2); exact rfl; (first | exact Gd.none | ((with_reducible apply Gd.on); exact rfl; exact rfl)); (repeat (first | (with_reducible exact PendF.nil) | ((with_reducible apply PendF.keep); exact rfl) | ((with_reducible apply PendF.gone); exact rfl))))
      | ((with_reducible apply J.pl2_off); exact rfl; ((with_reducible apply Gd.off); exact rfl; exact rfl; exact rfl); exact rfl; (repeat (first | (with_reducible exact PendF.nil) | ((with_reducible apply PendF.keep); exact rfl) | ((with_reducible apply PendF.gone); exact rfl))))
      | ((with_reducible apply J.pl2_off_none); exact rfl; ((with_reducible apply Gd.off); exact rfl; exact rfl; exact rfl); (repeat (first | (with_reducible exact PendF.nil) | ((with_reducible apply PendF.keep); exact rfl) | ((with_reducible apply PendF.gone); exact rfl))))
      | ((with_reducible first | apply J.psplit0 | apply J.psplit1 | apply J.psplit2); exact rfl; exact rfl; exact rfl)
      | (with_reducible exact J.pl_none)
      | ((with_reducible apply J.gsplit); exact rfl; exact rfl)
      | ((with_reducible first | apply J.cond | apply JC.cond); exact rfl)
      | (intro h; exfalso; (first | (simp at h; done) | (simp at h; omega) | omega))
      | (intro h; (try simp only [decide_eq_true_eq, decide_eq_false_iff_not, beq_iff_eq, beq_eq_false_iff_ne, Bool.not_eq_true', Bool.not_eq_false', bne_iff_ne, bne_eq_false_iff_eq, ne_eq, ge_iff_le, gt_iff_lt] at h))
      | (with_reducible apply J.gave')
      | ((with_reducible apply J.kept'); rotate_left; (repeat (first | (with_reducible exact Outs.nil) | ((with_reducible apply Outs.cons); (repeat (first | with_reducible exact Out.here | with_reducible apply Out.there))))))
    all_goals
      first
      | (rename_i q9 _
         apply J.reR (E := 9) (v := .slice q9.1 (j + 1) q9.2) (n := j + 1) (C := scs ((bgL seed leaf).take j) ++ [str (short (seed ++ num leaf 2 ++ [UInt8.ofNat j]))]) (v' := .slice q9.1 (j + 1) q9.2) (n' := j + 1) (C' := scs ((bgL seed leaf).take (j + 1)))
         · (repeat (first | with_reducible exact Upd.here | with_reducible apply Upd.there))
         · rfl
         · rfl
         · (rw [hts, scs_append]; rfl)
         · (apply J.againI (s := (j, q)) (s' := (j + 1, q9)); (focus (omega)); (focus ((try dsimp only); (show j + 1 ≤ 15; omega))); (focus (((try dsimp only); repeat (first | exact sub.nil _ | (refine sub.consE rfl ?_ ?_; (first | with_reducible rfl | ((focus (congr 1; omega))) | rfl)))))); ((try dsimp only); (repeat (first | (with_reducible exact Outs.nil) | ((with_reducible apply Outs.cons); (repeat (first | with_reducible exact Out.here | with_reducible apply Out.there))))))))
      | (trace_state; fail)
  · obtain rfl : j = 15 := by omega
    have htk : (bgL seed leaf).take 15 = bgL seed leaf := List.take_of_length_le (by rw [bgL_length]; exact Nat.le_refl _)
    rw [htk]
    repeat' first
      | refine J.one ?_
      | refine J.loudS ?_
      | (refine J.loudQ ?_; intro _ _)
      | (refine J.loudB ?_; intro _)
      | (with_reducible apply J.list)
      | ((with_reducible apply J.draw (id := 6) [0, 0, 0, 4, 12, 30, 0, 64, 192, 448, 1022, 2046, 4094, 8191, 16383] (.p 0 (.p 1 (.p 2 (.p 6 (.p 7 (.x 3 (.q 4 (.p 5 (.x 8 (.q 9 (.p 10 (.x 11 (.x 12 (.x 13 (.p 14 .nil) .none) .none) .none))) .none))) (.x 8 (.q 9 (.x 3 (.q 4 (.p 5 (.p 10 (.x 11 (.x 12 (.x 13 (.p 14 .nil) .none) .none) .none)))) .none)) .none))))))) (by kernel_rfl) ?_ (by kernel_rfl) ?_); (repeat (with_reducible first | exact PanicFree.body | exact PanicFree.np | exact PanicFree.lvS | apply PanicFree.then_ | apply PanicFree.blk)))
      | ((with_reducible apply J.pl2); exact rfl; (first | exact Gd.none | ((with_reducible apply Gd.on); exact rfl; exact rfl)); (repeat (first | (with_reducible exact PendF.nil) | ((with_reducible apply PendF.keep); exact rfl) | ((with_reducible apply PendF.gone); exact rfl))))
      | ((with_reducible apply J.pl2_off); exact rfl; ((with_reducible apply Gd.off); exact rfl; exact rfl; exact rfl); exact rfl; (repeat (first | (with_reducible exact PendF.nil) | ((with_reducible apply PendF.keep); exact rfl) | ((with_reducible apply PendF.gone); exact rfl))))
      | ((with_reducible apply J.pl2_off_none); exact rfl; ((with_reducible apply Gd.off); exact rfl; exact rfl; exact rfl); (repeat (first | (with_reducible exact PendF.nil) | ((with_reducible apply PendF.keep); exact rfl) | ((with_reducible apply PendF.gone); exact rfl))))
      | ((with_reducible first | apply J.psplit0 | apply J.psplit1 | apply J.psplit2); exact rfl; exact rfl; exact rfl)
      | (with_reducible exact J.pl_none)
      | ((with_reducible apply J.gsplit); exact rfl; exact rfl)
      | ((with_reducible first | apply J.cond | apply JC.cond); exact rfl)
      | (intro h; exfalso; (first | (simp at h; done) | (simp at h; omega) | omega))
      | (intro h; (try simp only [decide_eq_true_eq, decide_eq_false_iff_not, beq_iff_eq, beq_eq_false_iff_ne, Bool.not_eq_true', Bool.not_eq_false', bne_iff_ne, bne_eq_false_iff_eq, ne_eq, ge_iff_le, gt_iff_lt] at h))
      | (with_reducible apply J.gave')
      | ((with_reducible apply J.kept'); rotate_left; (repeat (first | (with_reducible exact Outs.nil) | ((with_reducible apply Outs.cons); (repeat (first | with_reducible exact Out.here | with_reducible apply Out.there))))))
    all_goals
      first
      | ((with_reducible apply J.freshRow); (repeat (first | with_reducible exact Out.here | with_reducible apply Out.there)); exact rfl; exact rfl; exact rfl)
      | (trace_state; fail)
def wkL (seed : List UInt8) (leaf : Nat) : List (List UInt8) := (bgL seed leaf).map fun p => wk p 3
theorem wkL_get (seed : List UInt8) (leaf : Nat) {j : Nat} (h : j < 15) : (wkL seed leaf)[j]? = some (wk (bgn seed leaf j) 3) := by
  unfold wkL
  rw [List.getElem?_map, bgL_get seed leaf h]
  rfl
theorem wkL_length (seed : List UInt8) (leaf : Nat) : (wkL seed leaf).length = 15 := by simp [wkL, bgL]
theorem wkL_flat (seed : List UInt8) (leaf i : Nat) : ((wkL seed leaf).take i).flatten.length ≤ 120 := by
  have h1 := flat_max (m := 8) (L := (wkL seed leaf).take i) fun x hx => by
    have h2 := List.mem_of_mem_take hx
    simp only [wkL, List.mem_map] at h2
    obtain ⟨p, hp, rfl⟩ := h2
    exact wk_le (bgL_le _ _ p hp) (Nat.le_refl _) 3
  have h2 : ((wkL seed leaf).take i).length ≤ 15 := by rw [List.length_take, wkL_length]; omega
  omega
theorem wkL_step (seed : List UInt8) (leaf : Nat) {j : Nat} (h : j < 15) : ((wkL seed leaf).take j).flatten ++ wk (bgn seed leaf j) 3 = ((wkL seed leaf).take (j + 1)).flatten := by
  rw [take_snoc (wkL_get seed leaf h), List.flatten_append]
  simp
theorem wkL_all (seed : List UInt8) (leaf : Nat) : short ((wkL seed leaf).take 15).flatten = pubF seed leaf := by
  rw [List.take_of_length_le (by rw [wkL_length]; exact Nat.le_refl _)]
  rfl
theorem bgL_str (seed : List UInt8) (leaf : Nat) {j : Nat} (h : j < 15) : (scs (bgL seed leaf))[j]? = some (str (bgn seed leaf j)) := scs_get (bgL_get seed leaf h)
theorem rpublic_ (seed : List UInt8) (leaf : Nat) (hl : leaf ≤ 7) (w : World) (hw : seed.length ≤ 1000) : CSpec Try.prog 91 [str seed, .int .i64 (leaf : Int)] [] w (Gives (str (pubF seed leaf))) := by
  refine spec_own0 Try.func91 rfl Try.ntmps91 rfl (l0 := [(0, str seed), (1, .int .i64 (leaf : Int))]) rfl ?_
  repeat' first
    | ((with_reducible apply J.freshR (rbegin_ seed leaf hl)); exact rfl; exact rfl; (focus (exact RH.of hw)); intro _ _)
    | refine J.one ?_
    | refine J.loudS ?_
    | (refine J.loudQ ?_; intro _ _)
    | (refine J.loudB ?_; intro _)
    | (with_reducible apply J.list)
    | ((with_reducible apply J.gsplit); exact rfl; exact rfl)
    | ((with_reducible first | apply J.cond | apply JC.cond); exact rfl)
    | (intro h; exfalso; fail)
    | (intro h; (try simp only [decide_eq_true_eq, decide_eq_false_iff_not, beq_iff_eq, beq_eq_false_iff_ne, Bool.not_eq_true', Bool.not_eq_false', bne_iff_ne, bne_eq_false_iff_eq, ne_eq, ge_iff_le, gt_iff_lt] at h))
    | (with_reducible apply J.gave')
    | ((with_reducible apply J.kept'); rotate_left; (repeat (first | (with_reducible exact Outs.nil) | ((with_reducible apply Outs.cons); (repeat (first | with_reducible exact Out.here | with_reducible apply Out.there))))))
  rename_i q0 _
  apply J.loopI (σ := Nat) (I := fun s => (s ≤ 15)) (L := fun s => [(5, .slice q0.1 15 q0.2), (6, str ((wkL seed leaf).take s).flatten), (7, .int .i64 (s : Int))]) (HH := fun s => [row (.slice q0.1 15 q0.2) 9 1 15 (scs (bgL seed leaf))]) (m := fun s => 15 - s) (s0 := 0)
  · ((try dsimp only); (exact Nat.zero_le _))
  · ((try dsimp only); repeat (first | exact sub.nil _ | (refine sub.consE rfl ?_ ?_; (first | with_reducible rfl | (rfl) | rfl))))
  · ((try dsimp only); (repeat (first | (with_reducible exact Outs.nil) | ((with_reducible apply Outs.cons); (repeat (first | with_reducible exact Out.here | with_reducible apply Out.there))))))
  rintro i hI
  try dsimp only at hI ⊢
  have hfl := wkL_flat seed leaf i
  rcases Nat.lt_or_ge i 15 with hlt | hge
  · have hts := wkL_step seed leaf hlt
    have hwk : (wk (bgn seed leaf i) 3).length = 8 := wk8 (short_length _) 3
    repeat' first
      | (refine J.qv ?_; (with_reducible apply exq); focus (first
        | ((with_reducible apply Qv.concat); exact rfl; exact rfl; (focus (omega)))))
      | (refine J.qr ?_; (with_reducible apply exq); focus (first
        | ((with_reducible apply Qr.indexRd (k := i) (C := scs (bgL seed leaf))); exact rfl; exact rfl; exact rfl; omega; exact RH.row (by (repeat (first | with_reducible exact In.here | with_reducible apply In.there))); (rw [scs_length, bgL_length]; omega))
        | ((with_reducible apply Qr.rd1 (C := scs (bgL seed leaf)) (j := i * 1)); exact rfl; exact RH.row (by (repeat (first | with_reducible exact In.here | with_reducible apply In.there))); (rw [Nat.mul_one]; exact bgL_str seed leaf (by omega)))))
      | ((with_reducible apply J.givesR (rwalk_ (bgn seed leaf i) 3)); exact rfl; exact rfl; focus (exact RH.of ⟨by omega, by rw [show (bgn seed leaf i).length = 8 from short_length _]; omega⟩))
      | refine J.one ?_
      | refine J.loudS ?_
      | (refine J.loudQ ?_; intro _ _)
      | (refine J.loudB ?_; intro _)
      | (with_reducible apply J.list)
      | ((with_reducible apply J.gsplit); exact rfl; exact rfl)
      | ((with_reducible first | apply J.cond | apply JC.cond); exact rfl)
      | (intro h; exfalso; (first | (simp at h; done) | (simp at h; omega) | omega))
      | (intro h; (try simp only [decide_eq_true_eq, decide_eq_false_iff_not, beq_iff_eq, beq_eq_false_iff_ne, Bool.not_eq_true', Bool.not_eq_false', bne_iff_ne, bne_eq_false_iff_eq, ne_eq, ge_iff_le, gt_iff_lt] at h))
      | (with_reducible apply J.gave')
      | ((with_reducible apply J.kept'); rotate_left; (repeat (first | (with_reducible exact Outs.nil) | ((with_reducible apply Outs.cons); (repeat (first | with_reducible exact Out.here | with_reducible apply Out.there))))))
    all_goals
      first
      | (apply J.againI (s := i) (s' := (i + 1)); (focus (omega)); (focus ((try dsimp only); (show i + 1 ≤ 15; omega))); (focus (((try dsimp only); repeat (first | exact sub.nil _ | (refine sub.consE rfl ?_ ?_; (first | with_reducible rfl | ((focus (first | (congr 1; omega) | (rw [← hts]; done) | (rw [← hts]; rfl)))) | rfl)))))); ((try dsimp only); (repeat (first | (with_reducible exact Outs.nil) | ((with_reducible apply Outs.cons); (repeat (first | with_reducible exact Out.here | with_reducible apply Out.there)))))))
      | (trace_state; fail)
  · obtain rfl : i = 15 := by omega
    repeat' first
      | ((with_reducible apply J.givesR (rshort ((wkL seed leaf).take 15).flatten)); exact rfl; exact rfl; focus (exact RH.of (by omega)))
      | refine J.one ?_
      | refine J.loudS ?_
      | (refine J.loudQ ?_; intro _ _)
      | (refine J.loudB ?_; intro _)
      | (with_reducible apply J.list)
      | ((with_reducible apply J.gsplit); exact rfl; exact rfl)
      | ((with_reducible first | apply J.cond | apply JC.cond); exact rfl)
      | (intro h; exfalso; (first | (simp at h; done) | (simp at h; omega) | omega))
      | (intro h; (try simp only [decide_eq_true_eq, decide_eq_false_iff_not, beq_iff_eq, beq_eq_false_iff_ne, Bool.not_eq_true', Bool.not_eq_false', bne_iff_ne, bne_eq_false_iff_eq, ne_eq, ge_iff_le, gt_iff_lt] at h))
      | (with_reducible apply J.gave')
      | ((with_reducible apply J.kept'); rotate_left; (repeat (first | (with_reducible exact Outs.nil) | ((with_reducible apply Outs.cons); (repeat (first | with_reducible exact Out.here | with_reducible apply Out.there))))))
    all_goals
      first
      | (simp only [retv]; rw [wkL_all]; done)
      | (trace_state; fail)
theorem rrow1 (seed : List UInt8) (i : Nat) (hi : i ≤ 7) (w : World) (hw : seed.length ≤ 1000) : CSpec Try.prog 55 [str seed, .int .i64 (i : Int), .int .i64 1] [] w (Gives (str (pubF seed i))) := by
  refine spec_own0 Try.func55 rfl Try.ntmps55 rfl (l0 := [(0, str seed), (1, .int .i64 (i : Int)), (2, .int .i64 1)]) rfl ?_
  repeat' first
    | ((with_reducible apply J.givesR (rpublic_ seed i hi)); exact rfl; exact rfl; focus (exact RH.of hw))
    | refine J.one ?_
    | refine J.loudS ?_
    | (refine J.loudQ ?_; intro _ _)
    | (refine J.loudB ?_; intro _)
    | (with_reducible apply J.list)
    | ((with_reducible apply J.gsplit); exact rfl; exact rfl)
    | ((with_reducible first | apply J.cond | apply JC.cond); exact rfl)
    | (intro h; exfalso; (simp at h; done))
    | (intro h; (try simp only [decide_eq_true_eq, decide_eq_false_iff_not, beq_iff_eq, beq_eq_false_iff_ne, Bool.not_eq_true', Bool.not_eq_false', bne_iff_ne, bne_eq_false_iff_eq, ne_eq, ge_iff_le, gt_iff_lt] at h))
    | (with_reducible apply J.gave')
    | ((with_reducible apply J.kept'); rotate_left; (repeat (first | (with_reducible exact Outs.nil) | ((with_reducible apply Outs.cons); (repeat (first | with_reducible exact Out.here | with_reducible apply Out.there))))))
  all_goals (rfl)
theorem rrow2 (seed : List UInt8) (i : Nat) (hi : i + 2 ≤ 8) (w : World) (hw : seed.length ≤ 1000) : CSpec Try.prog 55 [str seed, .int .i64 (i : Int), .int .i64 2] [] w (Gives (str (r2F seed i))) := by
  refine spec_own0 Try.func55 rfl Try.ntmps55 rfl (l0 := [(0, str seed), (1, .int .i64 (i : Int)), (2, .int .i64 2)]) rfl ?_
  repeat' first
    | (refine J.qv ?_; (with_reducible apply exq); focus (first
      | ((with_reducible apply Qv.quo); exact rfl; exact rfl; decide; exact (show IntKind.i64.wrap (Int.tdiv 2 2) = 1 by decide))
      | ((with_reducible apply Qv.add); exact rfl; exact rfl; exact wr64 (z := ((i + 1 : Nat) : Int)) (by omega) (by omega) (by omega))
      | ((with_reducible apply Qv.concat); exact rfl; exact rfl; (focus (rw [pubF_length, pubF_length]; omega)))))
    | ((with_reducible apply J.givesR (rrow1 seed i (by omega))); exact rfl; exact rfl; focus (exact RH.of hw))
    | ((with_reducible apply J.givesR (rrow1 seed (i + 1) (by omega))); exact rfl; exact rfl; focus (exact RH.of hw))
    | ((with_reducible apply J.givesR (rshort (pubF seed i ++ pubF seed (i + 1)))); exact rfl; exact rfl; focus (exact RH.of (by rw [List.length_append, pubF_length, pubF_length]; omega)))
    | refine J.one ?_
    | refine J.loudS ?_
    | (refine J.loudQ ?_; intro _ _)
    | (refine J.loudB ?_; intro _)
    | (with_reducible apply J.list)
    | ((with_reducible apply J.gsplit); exact rfl; exact rfl)
    | ((with_reducible first | apply J.cond | apply JC.cond); exact rfl)
    | (intro h; exfalso; (simp at h; done))
    | (intro h; (try simp only [decide_eq_true_eq, decide_eq_false_iff_not, beq_iff_eq, beq_eq_false_iff_ne, Bool.not_eq_true', Bool.not_eq_false', bne_iff_ne, bne_eq_false_iff_eq, ne_eq, ge_iff_le, gt_iff_lt] at h))
    | (with_reducible apply J.gave')
    | ((with_reducible apply J.kept'); rotate_left; (repeat (first | (with_reducible exact Outs.nil) | ((with_reducible apply Outs.cons); (repeat (first | with_reducible exact Out.here | with_reducible apply Out.there))))))
  all_goals (rfl)
theorem r2F_length (seed : List UInt8) (i : Nat) : (r2F seed i).length = 8 := short_length _
theorem rrow4 (seed : List UInt8) (i : Nat) (hi : i + 4 ≤ 8) (w : World) (hw : seed.length ≤ 1000) : CSpec Try.prog 55 [str seed, .int .i64 (i : Int), .int .i64 4] [] w (Gives (str (r4F seed i))) := by
  refine spec_own0 Try.func55 rfl Try.ntmps55 rfl (l0 := [(0, str seed), (1, .int .i64 (i : Int)), (2, .int .i64 4)]) rfl ?_
  repeat' first
    | (refine J.qv ?_; (with_reducible apply exq); focus (first
      | ((with_reducible apply Qv.quo); exact rfl; exact rfl; decide; exact (show IntKind.i64.wrap (Int.tdiv 4 2) = 2 by decide))
      | ((with_reducible apply Qv.add); exact rfl; exact rfl; exact wr64 (z := ((i + 2 : Nat) : Int)) (by omega) (by omega) (by omega))
      | ((with_reducible apply Qv.concat); exact rfl; exact rfl; (focus (rw [r2F_length, r2F_length]; omega)))))
    | ((with_reducible apply J.givesR (rrow2 seed i (by omega))); exact rfl; exact rfl; focus (exact RH.of hw))
    | ((with_reducible apply J.givesR (rrow2 seed (i + 2) (by omega))); exact rfl; exact rfl; focus (exact RH.of hw))
    | ((with_reducible apply J.givesR (rshort (r2F seed i ++ r2F seed (i + 2)))); exact rfl; exact rfl; focus (exact RH.of (by rw [List.length_append, r2F_length, r2F_length]; omega)))
    | refine J.one ?_
    | refine J.loudS ?_
    | (refine J.loudQ ?_; intro _ _)
    | (refine J.loudB ?_; intro _)
    | (with_reducible apply J.list)
    | ((with_reducible apply J.gsplit); exact rfl; exact rfl)
    | ((with_reducible first | apply J.cond | apply JC.cond); exact rfl)
    | (intro h; exfalso; (simp at h; done))
    | (intro h; (try simp only [decide_eq_true_eq, decide_eq_false_iff_not, beq_iff_eq, beq_eq_false_iff_ne, Bool.not_eq_true', Bool.not_eq_false', bne_iff_ne, bne_eq_false_iff_eq, ne_eq, ge_iff_le, gt_iff_lt] at h))
    | (with_reducible apply J.gave')
    | ((with_reducible apply J.kept'); rotate_left; (repeat (first | (with_reducible exact Outs.nil) | ((with_reducible apply Outs.cons); (repeat (first | with_reducible exact Out.here | with_reducible apply Out.there))))))
  all_goals (rfl)
theorem r4F_length (seed : List UInt8) (i : Nat) : (r4F seed i).length = 8 := short_length _
theorem rrow8 (seed : List UInt8) (w : World) (hw : seed.length ≤ 1000) : CSpec Try.prog 55 [str seed, .int .i64 0, .int .i64 8] [] w (Gives (str (rootF seed))) := by
  refine spec_own0 Try.func55 rfl Try.ntmps55 rfl (l0 := [(0, str seed), (1, .int .i64 0), (2, .int .i64 8)]) rfl ?_
  repeat' first
    | (refine J.qv ?_; (with_reducible apply exq); focus (first
      | ((with_reducible apply Qv.quo); exact rfl; exact rfl; decide; exact (show IntKind.i64.wrap (Int.tdiv 8 2) = 4 by decide))
      | ((with_reducible apply Qv.concat); exact rfl; exact rfl; (focus (rw [r4F_length, r4F_length]; omega)))))
    | ((with_reducible apply J.givesR (rrow4 seed 0 (by omega))); exact rfl; exact rfl; focus (exact RH.of hw))
    | ((with_reducible apply J.givesR (rrow4 seed 4 (by omega))); exact rfl; exact rfl; focus (exact RH.of hw))
    | ((with_reducible apply J.givesR (rshort (r4F seed 0 ++ r4F seed 4))); exact rfl; exact rfl; focus (exact RH.of (by rw [List.length_append, r4F_length, r4F_length]; omega)))
    | refine J.one ?_
    | refine J.loudS ?_
    | (refine J.loudQ ?_; intro _ _)
    | (refine J.loudB ?_; intro _)
    | (with_reducible apply J.list)
    | ((with_reducible apply J.gsplit); exact rfl; exact rfl)
    | ((with_reducible first | apply J.cond | apply JC.cond); exact rfl)
    | (intro h; exfalso; (simp at h; done))
    | (intro h; (try simp only [decide_eq_true_eq, decide_eq_false_iff_not, beq_iff_eq, beq_eq_false_iff_ne, Bool.not_eq_true', Bool.not_eq_false', bne_iff_ne, bne_eq_false_iff_eq, ne_eq, ge_iff_le, gt_iff_lt] at h))
    | (with_reducible apply J.gave')
    | ((with_reducible apply J.kept'); rotate_left; (repeat (first | (with_reducible exact Outs.nil) | ((with_reducible apply Outs.cons); (repeat (first | with_reducible exact Out.here | with_reducible apply Out.there))))))
  all_goals ((first | rfl | (simp only [retv]; rw [root_eq])))
theorem rroot_ (seed : List UInt8) (w : World) (hw : seed.length ≤ 1000) : CSpec Try.prog 24 [str seed] [] w (Gives (str (rootF seed))) := by
  refine spec_own0 Try.func24 rfl Try.ntmps24 rfl (l0 := [(0, str seed)]) rfl ?_
  repeat' first
    | ((with_reducible apply J.givesR (rrow8 seed)); exact rfl; exact rfl; focus (exact RH.of hw))
    | refine J.one ?_
    | refine J.loudS ?_
    | (refine J.loudQ ?_; intro _ _)
    | (refine J.loudB ?_; intro _)
    | (with_reducible apply J.list)
    | ((with_reducible apply J.gsplit); exact rfl; exact rfl)
    | ((with_reducible first | apply J.cond | apply JC.cond); exact rfl)
    | (intro h; exfalso; fail)
    | (intro h; (try simp only [decide_eq_true_eq, decide_eq_false_iff_not, beq_iff_eq, beq_eq_false_iff_ne, Bool.not_eq_true', Bool.not_eq_false', bne_iff_ne, bne_eq_false_iff_eq, ne_eq, ge_iff_le, gt_iff_lt] at h))
    | (with_reducible apply J.gave')
    | ((with_reducible apply J.kept'); rotate_left; (repeat (first | (with_reducible exact Outs.nil) | ((with_reducible apply Outs.cons); (repeat (first | with_reducible exact Out.here | with_reducible apply Out.there))))))
  all_goals (rfl)
end Go.Proofs.Ytfcaeifpclpnoaa.Mrr
namespace Go.Proofs.Ytfcaeifpclpnoaa.Back
open Go Go.RowKit Go.Shelf Eng
set_option linter.unusedVariables false
set_option maxRecDepth 100000
set_option maxHeartbeats 2000000
attribute [local go_sem] Oper.semAt_some

/-- The closure's walk: from the top down, as long as it is told to go on. -/
theorem back_in (F : Fence) (n : Nat) (hF : F.fn 95) (hro : F.round = none) (hn : 1 ≤ n) (l Bs b : Nat) (x : Nat → Int) (J : Nat → World → Prop) (Jx : World → Prop)
    (hJ : ∀ k W, J k W → W.cell? ⟨Bs, 0, none⟩ = some (.slice (some ⟨b, 0, none⟩) 4 4))
    (hx : ∀ k W, k < 4 → J (k + 1) W → W.cell? ⟨b, k, none⟩ = some (.int .u64 (x k)))
    (hY : ∀ k W, k < 4 → J (k + 1) W → YieldAt F (n - 1) Try.prog l #[.int .i64 (k : Int), .int .u64 (x k)] W fun e W' => (e = .returned (.bool true) ∧ J k W') ∨ (e = .returned (.bool false) ∧ Jx W'))
    (W : World) (h0 : J 4 W) :
    CallsIn F n Try.prog 95 #[.func (.yield l) #[] #[], .pointer (some ⟨Bs, 0, none⟩)] W fun e W' => (∃ v, e = .returned v) ∧ (J 0 W' ∨ Jx W') := by
  have hs0 := hJ 4 W h0
  refine callsIn_of_wp Try.func95 rfl hF ?_ hro
  simp only [Try.ntmps95, List.size_toArray, List.length_cons, List.length_nil, Nat.reduceAdd, Nat.reduceSub, Array.replicate_succ, Array.replicate_zero, List.push_toArray, List.append_toArray, List.nil_append, List.cons_append]
  gi_wp2
  gi_loopw [3] (fun i wr => ∃ k : Nat, k ≤ 4 ∧ i = .int .i64 ((k : Int) - 1) ∧ J k wr) (fun i _ => (intOf i + 1).toNat)
  case atStart => exact ⟨4, by omega, rfl, h0⟩
  case round =>
    obtain ⟨k, hk, rfl, hJs⟩ := hrel
    have hs := hJ k wr hJs
    cases k with
    | zero =>
      gi_wp2
      go_end0
      exact ⟨⟨_, rfl⟩, .inl hJs⟩
    | succ k =>
      have hk4 : k < 4 := by omega
      have e1 : ((k + 1 : Nat) : Int) - 1 = (k : Int) := by omega
      rw [e1]
      have hc := hx k wr hk4 hJs
      obtain ⟨fn, tmps, assign, body, hy, hR⟩ := hY k wr hk4 hJs
      gi_wp2
      refine hR.mono ?_
      rintro e W3 (⟨rfl, hJ3⟩ | ⟨rfl, hJx3⟩)
      · gi_wp2
        go_roundw
        case rel => exact ⟨k, by omega, rfl, hJ3⟩
        case measure => first | (simp [intOf]; done) | (simp [intOf]; omega)
      · gi_wp2
        refine bodyPost_ret (results_none rfl _ _ _) rfl ?_
        exact ⟨⟨_, rfl⟩, .inr hJx3⟩
/-! What is no cells -/
def obj (b : Nat) (o : Obj) : Asrt where
  holds h fp := fp = [b] ∧ h b = some o
  loc h h' fp he := by
    rintro ⟨rfl, hb⟩
    exact ⟨rfl, (he b (by simp)).trans hb⟩
theorem sat_obj {w0 : World} {own : List Nat} {H : List Asrt} {w : World} {b : Nat} {o : Obj} (h : Sat w0 own H w) (hm : In (obj b o) H) : w.heap[b]? = some o := by
  obtain ⟨fp, ⟨_, h1⟩, _⟩ := h.mem hm.mem
  exact h1
theorem sat_reobj {w0 : World} {own : List Nat} {H : List Asrt} {w : World} {b : Nat} {o : Obj} (o' : Obj) (h : Sat w0 own (obj b o :: H) w) : Sat w0 own (obj b o' :: H) (w.putObj b o') := by
  have hb := sat_obj h .here
  have hlt := (Array.getElem?_eq_some_iff.1 hb).1
  refine h.turn rfl rfl rfl (by simp [World.putObj]) fun fp hq => ?_
  obtain ⟨rfl, h1⟩ := hq
  exact ⟨⟨rfl, World.putObj_heap_same hlt⟩, fun i hi => World.putObj_heap_other (by simp at hi; omega)⟩
theorem sat_swap {w0 : World} {own : List Nat} {A B : Asrt} {H : List Asrt} {w : World} (h : Sat w0 own (A :: B :: H) w) : Sat w0 own (B :: A :: H) w := h.perm (List.Perm.swap ..)

/-- How a round may be left: it goes on, or the function is left. -/
def lv (w0 : World) (own : List Nat) (I : Nat → Prop) (HH : Nat → List Asrt) (HX O : List Asrt) (k : Nat) : Exit → Act → World → Prop
  | .normal, _, w => I k ∧ Sat w0 own (O ++ HH k) w
  | .ret, _, w => Sat w0 own (O ++ HX) w
  | _, _, _ => False

abbrev rnd (ll : Nat) : Fence := Fence.wide.inRound ll

theorem J.rangeBack {w0 : World} {own : List Nat} {n : Nat} {l : TL} {H R : List Asrt} {g p1 p2 : Nat} {assign body : Code} {Q : Exit → Act → World → Prop} (Bs b : Nat) (x : Nat → Int) (I : Nat → Prop) (HH : Nat → List Asrt) (HX : List Asrt) (L1 : Nat → TL)
    (hg : TL.get l g = some (.func (.func 95) #[] #[.pointer (some ⟨Bs, 0, none⟩)])) (hp1 : Nat.blt p1 n = true) (hp2 : Nat.blt p2 n = true)
    (hB : ∀ k, ∃ T, In (blk Bs [.slice (some ⟨b, 0, none⟩) 4 4] T) (HH k)) (hx : ∀ k, k < 4 → ∃ C T, In (blk b C T) (HH (k + 1)) ∧ C[k]? = some (.int .u64 (x k))) (hI : I 4) (ho : Outs (HH 4) H R)
    (hassign : ∀ ll k A, J ⟨w0, own, n, []⟩ ((p2, .int .u64 (x k)) :: (p1, .int .i64 (k : Int)) :: l) A (assign.wpIn (rnd ll) 5 Try.prog (Exit.then (fun a w => St ⟨w0, own, n, []⟩ (L1 k) A a w) (fun _ _ _ => False))))
    (hbody : ∀ ll D rc k, k < 4 → I (k + 1) → J ⟨w0, own, n, []⟩ (L1 k) (obj ll (.loop rc) :: obj D (.deferred (some [])) :: HH (k + 1)) (body.wpIn (rnd ll) 5 Try.prog (lv w0 own I HH HX [obj ll (.loop rc), obj D (.deferred (some []))] k)))
    (hdone : I 0 → ∀ D, J ⟨w0, own, n, [{ target := .collected D, args := #[] }]⟩ l (obj D (.deferred (some [])) :: HH 0) (Q .normal))
    (hstop : ∀ D, J ⟨w0, own, n, [{ target := .collected D, args := #[] }]⟩ l (obj D (.deferred (some [])) :: HX) (Q .ret)) :
    J ⟨w0, own, n, []⟩ l H ((Code.rangeFunc (.tmp g) #[p1, p2] assign body).wp Try.prog Q) := J.mk fun a w s => (wpIn_wide (n := 7)).1 <| wpIn_rangeFunc fun fn _ => by
  have hds : a.defers = [] := s.2.1
  let rc : LoopState → Option Code → Loop := fun st pe => { state := st, pending := pe, fn, tmps := a.tmps, params := #[p1, p2], assign, body, defers := w.heap.size }
  have s4 : Sat w0 own (HH 4) w := Sat.drops (H' := R) ((s.2.2.perm ho.perm).perm List.perm_append_comm)
  have s5 := s4.new (.deferred (some [])) (obj w.heap.size (.deferred (some []))) (fun h' hh => ⟨rfl, hh⟩)
  have s6 := s5.new (.loop (rc .ready none)) (obj (w.heap.size + 1) (.loop (rc .ready none))) (fun h' hh => by rw [World.size_alloc] at hh ⊢; exact ⟨rfl, hh⟩)
  have hev : a.eval (.tmp g) = .func (.func 95) #[] #[.pointer (some ⟨Bs, 0, none⟩)] := s.1.ev hg
  refine ⟨w.heap.size + 1, [{ target := .collected w.heap.size, args := #[] }], ((w.alloc (.deferred (some []))).alloc (.loop (rc .ready none))), { target := .fn (.func 95) #[.pointer (some ⟨Bs, 0, none⟩)], args := #[.func (.yield (w.heap.size + 1)) #[] #[]] }, ((w.alloc (.deferred (some []))).alloc (.loop (rc .ready none))), 95,
    #[.func (.yield (w.heap.size + 1)) #[] #[]] ++ #[.pointer (some ⟨Bs, 0, none⟩)], ((w.alloc (.deferred (some []))).alloc (.loop (rc .ready none))), run_enterLoop_outer _ _ _ _ _, ?_, fun _ _ => trivial, ?_, fun h => (by simp [Fence.wide] at h), ?_⟩
  · simp only [resolve, hev]
    simp [go_sem]
  · simp [invoke, go_sem]
  have key := back_in Fence.wide 6 trivial rfl (by omega) (w.heap.size + 1) Bs b x
    (fun k W => I k ∧ Sat w0 own (obj (w.heap.size + 1) (.loop (rc .ready none)) :: obj w.heap.size (.deferred (some [])) :: HH k) W)
    (fun W => Sat w0 own (obj (w.heap.size + 1) (.loop (rc .done (some .ret))) :: obj w.heap.size (.deferred (some [])) :: HX) W)
    (fun k W h => by
      obtain ⟨T, hm⟩ := hB k
      exact h.2.cell (.tail _ (.tail _ hm.mem)) rfl)
    (fun k W hk h => by
      obtain ⟨C, T, hm, hc⟩ := hx k hk
      exact h.2.cell (.tail _ (.tail _ hm.mem)) hc) ?_ _ ⟨hI, s6⟩
  · refine key.mono ?_
    rintro e W2 ⟨⟨v, rfl⟩, (⟨hi, hS⟩ | hS)⟩
    · have hend := run_endLoop (P := Try.prog) (sat_obj hS .here) (by simp [rc])
      exact ⟨none, _, hend, hdone hi _ _ _ ⟨⟨s.1.size, s.1.get⟩, by rw [hds]; rfl, (sat_reobj _ hS).drop⟩⟩
    · have hend := run_endLoop (P := Try.prog) (sat_obj hS .here) (by simp [rc])
      exact ⟨some .ret, _, hend, wpIn_ret (hstop _ _ _ ⟨⟨s.1.size, s.1.get⟩, by rw [hds]; rfl, (sat_reobj _ hS).drop⟩)⟩
  · rintro k W hk ⟨hi, hS⟩
    have hl := sat_obj hS .here
    have t2 := (s.1.put (d := p1) (v := .int .i64 (k : Int)) hp1).put (d := p2) (v := .int .u64 (x k)) hp2
    refine ⟨fn, _, assign, body, run_yield hl rfl, roundIn_of_wpIn trivial (wpIn_mono (hassign (w.heap.size + 1) k _ _ W ⟨⟨by simpa [rc, Act.put] using t2.size, fun d v hd => by simpa [rc, Act.put] using t2.get d v hd⟩, rfl, hS⟩) fun e a1 w1 hq => ?_)⟩
    cases e with
    | normal =>
      have hl1 := sat_obj hq.2.2 .here
      refine ⟨_, run_beginRound hl1 rfl, wpIn_mono (hbody (w.heap.size + 1) w.heap.size { rc .ready none with state := .busy } k hk hi a1 _ ⟨hq.1, hq.2.1, sat_reobj _ hq.2.2⟩) fun e2 a2 w2 hq2 => ?_⟩
      cases e2 with
      | normal => exact ⟨_, _, run_endRound none (sat_obj hq2.2 .here), .inl ⟨rfl, hq2.1, sat_reobj _ hq2.2⟩⟩
      | ret => exact ⟨_, _, run_endRound (some .ret) (sat_obj hq2 .here), .inr ⟨rfl, sat_reobj _ hq2⟩⟩
      | exit id => exact hq2.elim
      | goto t => exact hq2.elim
      | panic ch => exact hq2.elim
      | outgrown => exact hq2.elim
    | ret => exact hq.elim
    | exit id => exact hq.elim
    | goto t => exact hq.elim
    | panic ch => exact hq.elim
    | outgrown => exact hq.elim

/-! In a round -/
section
variable {P : Program} {c : Cx} {l : TL} {H : List Asrt} {Q : Exit → Act → World → Prop} {ll : Nat}
theorem JI.seq {x y : Code} (K : J c l H (x.wpIn (rnd ll) 5 P (Exit.then (y.wpIn (rnd ll) 5 P Q) Q))) : J c l H ((Code.seq x y).wpIn (rnd ll) 5 P Q) := J.mk fun a w s => wpIn_seq (K a w s)
theorem JI.skip (K : J c l H (Q .normal)) : J c l H (Code.skip.wpIn (rnd ll) 5 P Q) := J.mk fun a w s => wpIn_skip (K a w s)
theorem JI.block {id : Nat} {x : Code} (K : J c l H (x.wpIn (rnd ll) 5 P (Exit.inBlock id Q))) : J c l H ((Code.block id x).wpIn (rnd ll) 5 P Q) := J.mk fun a w s => wpIn_block (K a w s)
theorem JI.cret (K : J c l H (Q .ret)) : J c l H (Code.ret.wpIn (rnd ll) 5 P Q) := J.mk fun a w s => wpIn_ret (K a w s)
theorem JI.cond {x : Nat} {y z : Code} {t : Bool} (hx : TL.get l x = some (.bool t)) (K1 : t = true → J c ((x, .bool true) :: l) H (y.wpIn (rnd ll) 5 P Q)) (K2 : t = false → J c ((x, .bool false) :: l) H (z.wpIn (rnd ll) 5 P Q)) : J c l H ((Code.cond (.tmp x) y z).wpIn (rnd ll) 5 P Q) := J.mk fun a w s => by
  have hev : ev l (.tmp x) = some (.bool t) := hx
  cases t with
  | true => exact wpIn_cond_true (s.1.ev hev) (K1 rfl a w (s.sub (sub.cons hx fun _ _ h => h)))
  | false => exact wpIn_cond_false (s.1.ev hev) (K2 rfl a w (s.sub (sub.cons hx fun _ _ h => h)))
theorem JI.region_lit {id : Nat} {os : List Oper} (K : J c l H (wpListIn (rnd ll) 5 P os.toArray Q os)) : J c l H ((Code.region id os.toArray false).wpIn (rnd ll) 5 P Q) := J.mk fun a w s => wpIn_region_lit (K a w s)
theorem JI.nil {ops : Array Oper} (K : J c l H (Q .normal)) : J c l H (wpListIn (rnd ll) 5 P ops Q []) := K
theorem upon_in {o : Oper} {a : Act} {X : Act → World → Prop} {r : Result Next} (h : o.upon P a X Q r) (hr : ∀ row args w', r ≠ .ok (.row row args) w') (hq : ∀ m f t x y w', r ≠ .ok (.round m f t x y) w') : o.uponIn (rnd ll) 5 P a X Q r := by
  cases r with
  | ok v w =>
    cases v with
    | value v => exact h
    | skip => exact h
    | defer d => exact h
    | enter f args => exact ⟨fun h => by simp [Fence.wide] at h, callsIn_wide.2 h⟩
    | row row args => exact absurd rfl (hr _ _ _)
    | round m f t x y => exact absurd rfl (hq _ _ _ _ _ _)
    | _ => exact h
  | halt e w => cases e <;> exact h
theorem JI.call {f : Nat} [i : Eng.Enters P f] {ops : Array Oper} {rest : List Oper} {d : Nat} {xs : List Operand} {ts : Array TypeId} {vs : List Value} {ty : TypeId} {pos : String} {af : Array Edge} (hx : evs l xs = some vs) (K : J c l H (OW P Q ⟨some d, .call ⟨.value (.func f), xs.toArray, ts⟩, ty, pos, af, none⟩ (wpListIn (rnd ll) 5 P ops Q rest))) :
    J c l H (wpListIn (rnd ll) 5 P ops Q (⟨some d, .call ⟨.value (.func f), xs.toArray, ts⟩, ty, pos, af, none⟩ :: rest)) := J.mk fun a w s => by
  unfold wpListIn
  rw [if_pos (by simp [Region.wanted])]
  have k := K a w s
  unfold OW Oper.wp at k
  refine ⟨fun _ _ => trivial, ?_⟩
  rw [Oper.semAt_plain (rnd ll) a.eval _ (by intro cl h; cases h)]
  rw [run_call s.1 hx w] at k ⊢
  exact upon_in k (fun _ _ _ h => by cases h) (fun _ _ _ _ _ _ h => by cases h)
theorem JI.q0 {ops : Array Oper} {rest : List Oper} {d : Nat} {op : Op} {ty : TypeId} {pos : String} {af : Array Edge} {v : Value} (hdf : ∀ cl, op ≠ .defer cl) (hd : Nat.blt d c.n = true) (hv : Qv P c.n l op v) (K : J c ((d, v) :: l) H (wpListIn (rnd ll) 5 P ops Q rest)) :
    J c l H (wpListIn (rnd ll) 5 P ops Q (⟨some d, op, ty, pos, af, none⟩ :: rest)) := J.mk fun a w s => by
  unfold wpListIn
  rw [if_pos (by simp [Region.wanted])]
  refine ⟨fun _ _ => trivial, ?_⟩
  rw [Oper.semAt_plain (rnd ll) a.eval _ hdf, hv a w _ _ _ _ s.1]
  exact K _ _ ⟨s.1.put hd, s.2.1, s.2.2⟩
theorem JI.q1 {ops : Array Oper} {rest : List Oper} {d : Nat} {op : Op} {ty : TypeId} {pos : String} {af : Array Edge} {v : Value} (hdf : ∀ cl, op ≠ .defer cl) (hd : Nat.blt d c.n = true) (hv : Qr P c l H op v) (K : J c ((d, v) :: l) H (wpListIn (rnd ll) 5 P ops Q rest)) :
    J c l H (wpListIn (rnd ll) 5 P ops Q (⟨some d, op, ty, pos, af, none⟩ :: rest)) := J.mk fun a w s => by
  unfold wpListIn
  rw [if_pos (by simp [Region.wanted])]
  refine ⟨fun _ _ => trivial, ?_⟩
  rw [Oper.semAt_plain (rnd ll) a.eval _ hdf, hv a w _ _ _ _ s]
  exact K _ _ ⟨s.1.put hd, s.2.1, s.2.2⟩
/-- A store in a round. -/
theorem JI.store1 {T : Nat} {z : List Value} [i : Ty P T false 1 z] {ops : Array Oper} {rest : List Oper} {ty : TypeId} {pos : String} {af : Array Edge} {x y : Operand} {b off : Nat} {C C' : List Value} {E : TypeId} {H' : List Asrt} {v : Value} (hx : ev l x = some (.pointer (some ⟨b, off, none⟩))) (hy : ev l y = some v) (h1 : v.oneCell' = true)
    (hu : Upd (blk b C E) (blk b C' E) H H') (hC : splice C off [v] = C') (hfit : off + 1 ≤ C.length) (K : J c l H' (wpListIn (rnd ll) 5 P ops Q rest)) :
    J c l H (wpListIn (rnd ll) 5 P ops Q (⟨none, .store T x y, ty, pos, af, none⟩ :: rest)) := J.mk fun a w s => by
  unfold wpListIn
  rw [if_pos (by simp [Region.wanted])]
  refine ⟨fun _ _ => trivial, ?_⟩
  rw [Oper.semAt_plain (rnd ll) a.eval _ (by intro cl h; cases h)]
  obtain ⟨R, p1, p2⟩ := hu.perm
  have s1 := s.2.2.perm p1
  have hb := (s1.blk (List.mem_cons_self ..)).1
  have hv1 : v.cells.toList = [v] := by cases v <;> simp_all [Value.cells, Value.oneCell']
  have hr := run_storeV (P := P) (w := w) (T := T) (v := v) hb (by rw [← Array.length_toList, hv1]; rfl) hfit (by rw [hv1]; simpa using h1)
  have e : (execOp a.eval ⟨none, .store T x y, ty, pos, af, none⟩).run P w = .ok .skip (w.setRow b C'.toArray) := by
    simp [execOp, s.1.ev hx, s.1.ev hy, hr, hv1, hC]
  rw [e]
  exact K _ _ ⟨s.1.put_none, s.2.1, (s1.put C').perm p2⟩
end

/-! A function with a range over a function in it -/
section
variable {P : Program} {c : Cx} {l : TL} {H : List Asrt}
theorem spec_ofM {f : Nat} {fn : Func} {code : Code} {args : List Value} {H1 : List Asrt} {w : World} {R : Ending → List Asrt → Prop} {n : Nat} {l0 : TL} (hf : P.funcs[f]? = some fn) (hb : fn.body = some code) (hn : fn.ntmps = n) (hsz : Nat.ble args.length n = true) (hl : initTL 0 args = l0)
    (K : ∀ fp, J ⟨w, fp, n, []⟩ l0 H1 (code.wp P (bodyPostM Fence.wide 7 P fn fun e w' => ∃ H3, R e H3 ∧ Sat w fp H3 w'))) : CSpec P f args H1 w R := by
  intro fp h1 h2 h3
  refine (callsIn_wide (n := 7)).1 (callsIn_of_wp_marks hf hb trivial (wpIn_wide.2 ((K fp).out _ _ ⟨⟨?_, ?_⟩, rfl, fp, h1, h2, fun i hi => ⟨h3 i hi, fun _ => hi⟩, Fr.refl _ _⟩)))
  · have : args.length ≤ n := Nat.le_of_ble_eq_true hsz
    simp [hn]; omega
  · intro d v hd
    rw [← hl] at hd
    obtain ⟨_, h5⟩ := initTL_get args 0 d v hd
    have hlt : d < args.length := by
      rcases Nat.lt_or_ge d args.length with hq | hq
      · exact hq
      · rw [Nat.sub_zero, List.getElem?_eq_none hq] at h5; cases h5
    rw [Array.getElem?_append_left (by simpa using hlt)]
    simpa using h5
theorem J.retM {F : Fence} {n : Nat} {fn : Func} {rs : List ResultVar} {vs : List Value} {r : Value} {R : Ending → World → Prop} (hds : c.ds = []) (hr : fn.results = rs.toArray) (hres : Res P c l H rs vs) (hv : retv vs = r) (K : J c l H (fun _ w => R (.returned r) w)) :
    J c l H (bodyPostM F n P fn R .ret) := J.mk fun a w s => by
  have e : a.defers = [] := s.2.1.trans hds
  simp only [bodyPostM, e, LeavesInM, LeavesIn]
  exact ⟨_, hv ▸ run_results hr hres s, K a w s⟩
theorem J.retD {F : Fence} {n D : Nat} {fn : Func} {rs : List ResultVar} {vs : List Value} {r : Value} {R : Ending → World → Prop} (hds : c.ds = [{ target := .collected D, args := #[] }]) (hr : fn.results = rs.toArray) (hres : Res P c l (obj D (.deferred none) :: H) rs vs) (hv : retv vs = r) (K : J c l (obj D (.deferred none) :: H) (fun _ w => R (.returned r) w)) :
    J c l (obj D (.deferred (some [])) :: H) (bodyPostM F n P fn R .ret) := J.mk fun a w s => by
  have e : a.defers = [{ target := .collected D, args := #[] }] := s.2.1.trans hds
  have s2 : St c l (obj D (.deferred none) :: H) a (w.putObj D (.deferred none)) := ⟨s.1, s.2.1, sat_reobj _ s.2.2⟩
  simp only [bodyPostM, e, LeavesInM, LeavesIn]
  exact ⟨by simp, .inl ⟨D, _, rfl, run_takeDeferred (sat_obj s.2.2 .here), _, hv ▸ run_results hr hres s2, K a _ s2⟩⟩
theorem Qv.makeFunc {m fb t : Nat} {v : Value} (h : TL.get l t = some v) : Qv P m l (.makeFunc (.func fb) #[] #[.tmp t]) (.func (.func fb) #[] #[v]) := fun a w _ _ _ _ s => by
  have hv : a.eval (.tmp t) = v := s.ev h
  simp [execOp, Instr.makeFunc, hv]
theorem Qv.sliceAll {m T E k b o sz : Nat} {agg : Bool} {z : List Value} {t : Nat} [j : Ar P T k E] [q : Ty P E agg sz z] (h : TL.get l t = some (.pointer (some ⟨b, o, none⟩))) : Qv P m l (.slice T (.tmp t) none none none) (.slice (some ⟨b, o, none⟩) k k) := fun a w _ _ _ _ s => by
  have hv : a.eval (.tmp t) = .pointer (some ⟨b, o, none⟩) := s.ev h
  have e0 : (⟨b, o, none⟩ : Addr).add 0 = ⟨b, o, none⟩ := by rw [addr_add]; rfl
  simp [execOp, Instr.sliceAt, Instr.sureAddr, Instr.sliceBounds, hv, run_und j.und, run_size (P := P) (w := w) (T := E), e0]
end
end Go.Proofs.Ytfcaeifpclpnoaa.Back
namespace Go.Proofs.Ytfcaeifpclpnoaa.Cmp
open Go Go.RowKit Eng
set_option linter.unusedVariables false
set_option maxRecDepth 100000
set_option linter.unusedSimpArgs false
open Wide Back
set_option maxHeartbeats 2000000
/-- The iterator's value: the closure, with its box. -/
def Backs (b : Nat) : Ending → List Asrt → Prop := fun e H => ∃ Bs, e = .returned (.func (.func 95) #[] #[.pointer (some ⟨Bs, 0, none⟩)]) ∧ H = [blk Bs [.slice (some ⟨b, 0, none⟩) 4 4] 122]
theorem backward (b : Nat) (w : World) : CSpec Try.prog 58 [.slice (some ⟨b, 0, none⟩) 4 4] [] w (Backs b) := by
  refine spec_of Try.func58 rfl Try.ntmps58 rfl (l0 := [(0, .slice (some ⟨b, 0, none⟩) 4 4)]) rfl ?_
  intro fp
  repeat' first
    | (with_reducible apply J.seq)
    | (with_reducible apply J.region_lit)
    | (with_reducible apply J.ops_nil)
    | (with_reducible apply J.app_cons)
    | (with_reducible apply J.app_nil)
    | (with_reducible apply J.then_)
    | (with_reducible apply J.blk_)
    | (with_reducible apply J.skip)
    | (with_reducible apply J.block)
    | ((with_reducible apply J.q0); exact rfl; focus (first
      | ((with_reducible apply Qv.makeFunc); exact rfl)
      | ((with_reducible apply Qv.pure); exact rfl)
      | ((with_reducible apply Qv.fieldAddr); exact rfl; (focus ((try simp only [nl, Nat.reduceAdd, Nat.reduceMul, Int.reduceToNat]); try exact rfl)))
      | ((with_reducible first | apply Qv.indexArr | apply Qv.indexBlk | apply Qv.indexN); exact rfl; exact rfl; (first | decide | omega | (constructor <;> omega)); (focus ((try simp only [nl, Nat.reduceAdd, Nat.reduceMul, Int.reduceToNat]); try exact rfl)))
      | ((with_reducible apply Qv.field1); exact rfl; exact rfl)
      | ((with_reducible apply Qv.fieldN); exact rfl; (focus ((try simp only [nl, Nat.reduceAdd, Nat.reduceMul, Int.reduceToNat]); try exact rfl)))
      | ((with_reducible apply Qv.index1); exact rfl; exact rfl; (first | decide | omega | (constructor <;> omega)); exact rfl)
      | ((with_reducible first | apply Qv.add | apply Qv.sub | apply Qv.mul); exact rfl; exact rfl; (first | exact wr64 (by omega) (by omega) (by (try simp only [Int.reduceAdd, Int.reduceSub, Int.reduceMul]); exact rfl) | exact wru64 (by omega) (by omega) (by (try simp only [Int.reduceAdd, Int.reduceSub, Int.reduceMul]); exact rfl) | exact rfl))
      | ((with_reducible apply Qv.conv); exact rfl; (first | exact wr64 (by omega) (by omega) (by (try simp only [Int.reduceAdd, Int.reduceSub, Int.reduceMul]); exact rfl) | exact wru64 (by omega) (by omega) (by (try simp only [Int.reduceAdd, Int.reduceSub, Int.reduceMul]); exact rfl) | exact rfl))
      | ((with_reducible first | apply Qv.eqlB | apply Qv.neqB); exact rfl; exact rfl)
      | ((with_reducible first | apply Qv.buildA | apply Qv.buildS); exact rfl; (simp only [bfill, nl, Nat.reduceAdd, Nat.reduceMul, Int.reduceToNat, List.getElem?_cons_zero, List.getElem?_cons_succ, Nat.reduceLeDiff, Nat.le_refl, and_self, if_true, eq_self]; exact rfl))
      | ((with_reducible apply Qv.quoP); exact rfl; exact rfl; (first | decide | omega); (omega); (first | exact wr64 (by omega) (by omega) rfl | exact wru64 (by omega) (by omega) rfl))
      | ((with_reducible apply Qv.remP); exact rfl; exact rfl; (first | decide | omega); omega)
      | ((with_reducible apply Qv.rem); exact rfl; exact rfl; (first | decide | omega); exact rfl)
      | ((with_reducible apply Qv.quo); exact rfl; exact rfl; (first | decide | omega); (first | exact wr64 (by omega) (by omega) (by (try simp only [Int.reduceAdd, Int.reduceSub, Int.reduceMul]); exact rfl) | exact wru64 (by omega) (by omega) (by (try simp only [Int.reduceAdd, Int.reduceSub, Int.reduceMul]); exact rfl) | exact rfl))
      | ((with_reducible apply Qv.shl); exact rfl; exact rfl; (first | decide | omega); (first | (first | exact wr64 (by omega) (by omega) (by (try simp only [Int.reduceAdd, Int.reduceSub, Int.reduceMul]); exact rfl) | exact wru64 (by omega) (by omega) (by (try simp only [Int.reduceAdd, Int.reduceSub, Int.reduceMul]); exact rfl) | exact rfl) | exact rfl))
      | ((with_reducible apply Qv.shr); exact rfl; exact rfl; (first | decide | omega); exact rfl)
      | ((with_reducible apply Qv.lenS); exact rfl)
      | ((with_reducible apply Qv.lenStr); exact rfl)
      | ((with_reducible apply Qv.capS); exact rfl)
      | ((with_reducible apply Qv.max); exact rfl; exact rfl)
      | ((with_reducible apply Qv.min); exact rfl; exact rfl)))
    | ((with_reducible apply J.q1); exact rfl; focus (first
      | ((with_reducible apply Qr.load1); exact rfl; (repeat (first | with_reducible exact In.here | with_reducible apply In.there)); exact rfl)
      | ((with_reducible apply Qr.loadN); exact rfl; (repeat (first | with_reducible exact In.here | with_reducible apply In.there)); (focus ((try simp only [nl, Nat.reduceAdd, Nat.reduceMul, Int.reduceToNat]); try exact rfl)); (focus (first | (simp only [nl, Nat.reduceAdd, Nat.reduceMul, Int.reduceToNat]; done) | exact rfl)))
      | ((with_reducible apply Qr.row1); exact rfl; (repeat (first | with_reducible exact In.here | with_reducible apply In.there)); exact rfl)
      | ((with_reducible apply Qr.rowN); exact rfl; (repeat (first | with_reducible exact In.here | with_reducible apply In.there)); (focus ((try simp only [nl, Nat.reduceAdd, Nat.reduceMul, Int.reduceToNat]); try exact rfl)); exact rfl)
      | ((with_reducible apply Qr.lenRow); exact rfl; (repeat (first | with_reducible exact In.here | with_reducible apply In.there)))))
    | ((with_reducible apply J.guard_on); exact rfl; exact rfl)
    | ((with_reducible apply J.guard_off); exact rfl; exact rfl; exact rfl; exact rfl)
    | ((with_reducible apply J.guard_off_none); exact rfl; exact rfl; exact rfl)
    | ((with_reducible apply J.gsplit); exact rfl; exact rfl)
    | ((with_reducible apply J.list); focus (first
      | ((with_reducible apply J.buildSlice); exact rfl; exact rfl; exact rfl; exact rfl; exact rfl; (simp only [bfill, rep, List.replicate_succ, List.replicate_zero, List.flatten_cons, List.flatten_nil, nl, Nat.reduceAdd, Nat.reduceMul, Int.reduceToNat]; exact rfl); intro _)
      | ((with_reducible apply J.buildSlice0); exact rfl; intro _)
      | ((with_reducible apply J.append); exact rfl; exact rfl; (repeat (first | with_reducible exact Out.here | with_reducible apply Out.there)); exact rfl; (repeat (first | with_reducible exact In.here | with_reducible apply In.there)); (focus ((try simp only [nl, Nat.reduceAdd, Nat.reduceMul, Int.reduceToNat]); try exact rfl)); exact rfl; exact rfl; exact rfl; exact rfl; exact rfl; (first | decide | (simp only [maxLen]; omega) | omega); (first | decide | (simp only [maxLen]; omega) | omega); intro _)
      | ((with_reducible apply J.appendNil); exact rfl; exact rfl; exact rfl; (repeat (first | with_reducible exact In.here | with_reducible apply In.there)); (focus ((try simp only [nl, Nat.reduceAdd, Nat.reduceMul, Int.reduceToNat]); try exact rfl)); exact rfl; exact rfl; exact rfl; exact rfl; exact rfl; (first | decide | (simp only [maxLen]; omega) | omega); (first | decide | (simp only [maxLen]; omega) | omega); intro _)
      | ((with_reducible apply J.boxN); exact rfl; exact rfl; intro _)
      | ((with_reducible apply J.box1); exact rfl; exact rfl; exact rfl; intro _)
      | ((with_reducible apply J.alloc); exact rfl; intro _)
      | ((with_reducible apply J.storeN); exact rfl; exact rfl; (repeat (first | with_reducible exact Upd.here | with_reducible apply Upd.there)); (focus ((try simp only [nl, Nat.reduceAdd, Nat.reduceMul, Int.reduceToNat]); try exact rfl)); (focus (first | (simp only [nl, Nat.reduceAdd, Nat.reduceMul, Int.reduceToNat]; done) | exact rfl)); (focus (first | (simp only [nl, Nat.reduceAdd, Nat.reduceMul, Int.reduceToNat]; done) | (simp only [nl, Nat.reduceAdd, Nat.reduceMul, Int.reduceToNat]; omega) | decide)); (first | (with_reducible exact wvs_ones _ _) | ((with_reducible apply tab_ones); intro _; rfl) | exact rfl))
      | ((with_reducible apply J.store1); exact rfl; exact rfl; exact rfl; (repeat (first | with_reducible exact Upd.here | with_reducible apply Upd.there)); (focus ((try simp only [nl, Nat.reduceAdd, Nat.reduceMul, Int.reduceToNat]); try exact rfl)); (first | decide | (simp only [nl, Nat.reduceAdd, Nat.reduceMul, Int.reduceToNat]; omega)))))
    | ((with_reducible apply J.cond_true); exact rfl)
    | ((with_reducible apply J.cond_false); exact rfl)
    | ((with_reducible apply J.cond); exact rfl)
    | (intro h; exfalso; (first | (simp at h; done) | (simp at h; omega)))
    | (intro h; (try simp only [decide_eq_true_eq, decide_eq_false_iff_not, beq_iff_eq, beq_eq_false_iff_ne, Bool.not_eq_true', Bool.not_eq_false', bne_iff_ne, bne_eq_false_iff_eq, ne_eq, ge_iff_le, gt_iff_lt] at h))
    | (with_reducible apply J.cret)
    | ((with_reducible apply J.ret); exact rfl; exact rfl; (repeat (first | (with_reducible exact Res.nil) | ((with_reducible apply Res.tmp); exact rfl) | ((with_reducible apply Res.cell1); exact rfl; (repeat (first | with_reducible exact In.here | with_reducible apply In.there)); exact rfl) | ((with_reducible apply Res.cellN); exact rfl; (repeat (first | with_reducible exact In.here | with_reducible apply In.there)); (focus ((try simp only [nl, Nat.reduceAdd, Nat.reduceMul, Int.reduceToNat]); try exact rfl)); (focus (first | (simp only [nl, Nat.reduceAdd, Nat.reduceMul, Int.reduceToNat]; done) | exact rfl))))); exact rfl)
    | ((with_reducible apply J.ret_normal); exact rfl; exact rfl; (repeat (first | (with_reducible exact Res.nil) | ((with_reducible apply Res.tmp); exact rfl) | ((with_reducible apply Res.cell1); exact rfl; (repeat (first | with_reducible exact In.here | with_reducible apply In.there)); exact rfl) | ((with_reducible apply Res.cellN); exact rfl; (repeat (first | with_reducible exact In.here | with_reducible apply In.there)); (focus ((try simp only [nl, Nat.reduceAdd, Nat.reduceMul, Int.reduceToNat]); try exact rfl)); (focus (first | (simp only [nl, Nat.reduceAdd, Nat.reduceMul, Int.reduceToNat]; done) | exact rfl))))); exact rfl)
    | (with_reducible apply J.gave')
    | ((with_reducible apply J.kept'); rotate_left; (repeat (first | (with_reducible exact Outs.nil) | ((with_reducible apply Outs.cons); (repeat (first | with_reducible exact Out.here | with_reducible apply Out.there))))))
    | (with_reducible apply J.exit)
    | (with_reducible apply J.then_ret)
    | (with_reducible apply J.then_exit)
    | (with_reducible apply J.then_panic)
    | (with_reducible apply J.blk_ret)
    | (with_reducible apply J.blk_panic)
    | (with_reducible apply J.blk_exit)
    | ((with_reducible apply J.blk_past); exact rfl)
  all_goals ((rename_i Bs; first | exact J.post ⟨Bs, rfl, rfl⟩ (.cons .here .nil)))
section
variable {c : Cx} {l : TL} {H : List Asrt} {Q : Exit → Act → World → Prop} {X : Act → World → Prop} {ty : TypeId} {pos : String} {af : Array Edge} {d : Nat}
theorem J.backs {b : Nat} {xs : List Operand} {ts : Array TypeId} (hd : Nat.blt d c.n = true) (hx : evs l xs = some [.slice (some ⟨b, 0, none⟩) 4 4])
    (K : ∀ Bs, J c ((d, .func (.func 95) #[] #[.pointer (some ⟨Bs, 0, none⟩)]) :: l) (blk Bs [.slice (some ⟨b, 0, none⟩) 4 4] 122 :: H) X) : J c l H (OW Try.prog Q ⟨some d, .call ⟨.value (.func 58), xs.toArray, ts⟩, ty, pos, af, none⟩ X) :=
  J.call hd hx .nil (fun w _ => backward b w) (fun v H3 ⟨Bs, h1, h2⟩ => by cases h1; subst h2; exact K Bs) (fun ch H3 ⟨Bs, h1, _⟩ => by cases h1) (fun H3 ⟨Bs, h1, _⟩ => by cases h1)
theorem J.stE {L : TL} (hs : Eng.sub l L) : J c l H (fun a w => St c L H a w) := J.mk fun a w s => s.sub hs
theorem J.lvN {I : Nat → Prop} {HH : Nat → List Asrt} {HX O R : List Asrt} {k : Nat} (hI : I k) (ho : Outs (O ++ HH k) H R) : J c l H (lv c.w0 c.own I HH HX O k .normal) := J.mk fun a w s => ⟨hI, Sat.drops (H' := R) ((s.2.2.perm ho.perm).perm List.perm_append_comm)⟩
theorem J.lvR {I : Nat → Prop} {HH : Nat → List Asrt} {HX O R : List Asrt} {k : Nat} (ho : Outs (O ++ HX) H R) : J c l H (lv c.w0 c.own I HH HX O k .ret) := J.mk fun a w s => Sat.drops (H' := R) ((s.2.2.perm ho.perm).perm List.perm_append_comm)
end
/-- No panic is let out. -/
def np (Q : Exit → Act → World → Prop) : Exit → Act → World → Prop
  | .panic _, _, _ => False
  | e, a, w => Q e a w
theorem PanicFree.np {Q : Exit → Act → World → Prop} : PanicFree (np Q) := fun ch a a' w he h => h.elim
section
variable {P : Program} {c : Cx} {l : TL} {H : List Asrt} {Q : Exit → Act → World → Prop}
theorem J.noPanic {x : Code} (K : J c l H (x.wp P (np Q))) : J c l H (x.wp P Q) := J.mk fun a w s => Code.wp_mono (fun e a' w' q => by
  cases e with
  | panic ch => exact q.elim
  | _ => exact q) (K a w s)
theorem J.np_ret (K : J c l H (Q .ret)) : J c l H (np Q .ret) := K
end
/-- Four words by their places. -/
def w4 (a0 a1 a2 a3 : Int) : Nat → Int
  | 0 => a0 | 1 => a1 | 2 => a2 | _ => a3
theorem four {p : Nat → Prop} (h0 : p 0) (h1 : p 1) (h2 : p 2) (h3 : p 3) : ∀ k, k < 4 → p k
  | 0, _ => h0 | 1, _ => h1 | 2, _ => h2 | 3, _ => h3
  | k + 4, h => by omega
theorem cmp (a b : Int) (h : Wd a ∧ Wd b) (w : World) : CSpec Try.prog 31 [.agg (wv a).toArray, .agg (wv b).toArray] [] w (Gives (.int .i64 (wcmp a b))) := by
  obtain ⟨a0, a1, a2, a3, ha0, ha1, ha2, ha3, rfl⟩ := wd_words h.1
  obtain ⟨b0, b1, b2, b3, hb0, hb1, hb2, hb3, rfl⟩ := wd_words h.2
  rw [wv_words ha0 ha1 ha2 ha3, wv_words hb0 hb1 hb2 hb3]
  unfold Wo at *
  refine Back.spec_ofM Try.func31 rfl Try.ntmps31 rfl (l0 := [(0, .agg [.int .u64 a0, .int .u64 a1, .int .u64 a2, .int .u64 a3].toArray), (1, .agg [.int .u64 b0, .int .u64 b1, .int .u64 b2, .int .u64 b3].toArray)]) rfl ?_
  intro fp
  refine J.noPanic ?_
  repeat' first
    | (with_reducible apply JI.seq)
    | (with_reducible apply JI.region_lit)
    | (with_reducible apply JI.nil)
    | (with_reducible apply JI.skip)
    | (with_reducible apply JI.cret)
    | (with_reducible apply JI.block)
    | (with_reducible apply J.np_ret)
    | ((with_reducible apply JI.q0); (focus (intro cl h; cases h)); exact rfl; (focus (first
      | ((with_reducible apply Qv.sliceAll); exact rfl)
      | ((with_reducible apply Qv.pure); exact rfl)
      | ((with_reducible apply Qv.fieldAddr); exact rfl; (focus ((try simp only [nl, Nat.reduceAdd, Nat.reduceMul, Int.reduceToNat]); try exact rfl)))
      | ((with_reducible first | apply Qv.indexArr | apply Qv.indexBlk | apply Qv.indexN); exact rfl; exact rfl; (first | decide | omega | (constructor <;> omega)); (focus ((try simp only [nl, Nat.reduceAdd, Nat.reduceMul, Int.reduceToNat]); try exact rfl)))
      | ((with_reducible apply Qv.field1); exact rfl; exact rfl)
      | ((with_reducible apply Qv.fieldN); exact rfl; (focus ((try simp only [nl, Nat.reduceAdd, Nat.reduceMul, Int.reduceToNat]); try exact rfl)))
      | ((with_reducible apply Qv.index1); exact rfl; exact rfl; (first | decide | omega | (constructor <;> omega)); exact rfl)
      | ((with_reducible first | apply Qv.add | apply Qv.sub | apply Qv.mul); exact rfl; exact rfl; (first | exact wr64 (by omega) (by omega) (by (try simp only [Int.reduceAdd, Int.reduceSub, Int.reduceMul]); exact rfl) | exact wru64 (by omega) (by omega) (by (try simp only [Int.reduceAdd, Int.reduceSub, Int.reduceMul]); exact rfl) | exact rfl))
      | ((with_reducible apply Qv.conv); exact rfl; (first | exact wr64 (by omega) (by omega) (by (try simp only [Int.reduceAdd, Int.reduceSub, Int.reduceMul]); exact rfl) | exact wru64 (by omega) (by omega) (by (try simp only [Int.reduceAdd, Int.reduceSub, Int.reduceMul]); exact rfl) | exact rfl))
      | ((with_reducible first | apply Qv.eqlB | apply Qv.neqB); exact rfl; exact rfl)
      | ((with_reducible first | apply Qv.buildA | apply Qv.buildS); exact rfl; (simp only [bfill, nl, Nat.reduceAdd, Nat.reduceMul, Int.reduceToNat, List.getElem?_cons_zero, List.getElem?_cons_succ, Nat.reduceLeDiff, Nat.le_refl, and_self, if_true, eq_self]; exact rfl))
      | ((with_reducible apply Qv.quoP); exact rfl; exact rfl; (first | decide | omega); (omega); (first | exact wr64 (by omega) (by omega) rfl | exact wru64 (by omega) (by omega) rfl))
      | ((with_reducible apply Qv.remP); exact rfl; exact rfl; (first | decide | omega); omega)
      | ((with_reducible apply Qv.rem); exact rfl; exact rfl; (first | decide | omega); exact rfl)
      | ((with_reducible apply Qv.quo); exact rfl; exact rfl; (first | decide | omega); (first | exact wr64 (by omega) (by omega) (by (try simp only [Int.reduceAdd, Int.reduceSub, Int.reduceMul]); exact rfl) | exact wru64 (by omega) (by omega) (by (try simp only [Int.reduceAdd, Int.reduceSub, Int.reduceMul]); exact rfl) | exact rfl))
      | ((with_reducible apply Qv.shl); exact rfl; exact rfl; (first | decide | omega); (first | (first | exact wr64 (by omega) (by omega) (by (try simp only [Int.reduceAdd, Int.reduceSub, Int.reduceMul]); exact rfl) | exact wru64 (by omega) (by omega) (by (try simp only [Int.reduceAdd, Int.reduceSub, Int.reduceMul]); exact rfl) | exact rfl) | exact rfl))
      | ((with_reducible apply Qv.shr); exact rfl; exact rfl; (first | decide | omega); exact rfl)
      | ((with_reducible apply Qv.lenS); exact rfl)
      | ((with_reducible apply Qv.lenStr); exact rfl)
      | ((with_reducible apply Qv.capS); exact rfl)
      | ((with_reducible apply Qv.max); exact rfl; exact rfl)
      | ((with_reducible apply Qv.min); exact rfl; exact rfl))))
    | ((with_reducible apply JI.q1); (focus (intro cl h; cases h)); exact rfl; (focus (first
      | ((with_reducible apply Qr.load1); exact rfl; (repeat (first | with_reducible exact In.here | with_reducible apply In.there)); exact rfl)
      | ((with_reducible apply Qr.loadN); exact rfl; (repeat (first | with_reducible exact In.here | with_reducible apply In.there)); (focus ((try simp only [nl, Nat.reduceAdd, Nat.reduceMul, Int.reduceToNat]); try exact rfl)); (focus (first | (simp only [nl, Nat.reduceAdd, Nat.reduceMul, Int.reduceToNat]; done) | exact rfl)))
      | ((with_reducible apply Qr.row1); exact rfl; (repeat (first | with_reducible exact In.here | with_reducible apply In.there)); exact rfl)
      | ((with_reducible apply Qr.rowN); exact rfl; (repeat (first | with_reducible exact In.here | with_reducible apply In.there)); (focus ((try simp only [nl, Nat.reduceAdd, Nat.reduceMul, Int.reduceToNat]); try exact rfl)); exact rfl)
      | ((with_reducible apply Qr.lenRow); exact rfl; (repeat (first | with_reducible exact In.here | with_reducible apply In.there))))))
    | ((with_reducible apply JI.store1); exact rfl; exact rfl; exact rfl; (repeat (first | with_reducible exact Upd.here | with_reducible apply Upd.there)); (focus ((try simp only [nl, Nat.reduceAdd, Nat.reduceMul, Int.reduceToNat]); try exact rfl)); (first | decide | (simp only [nl, Nat.reduceAdd, Nat.reduceMul, Int.reduceToNat]; omega)))
    | ((with_reducible apply JI.call); exact rfl; focus (first
      | fail))
    | ((with_reducible apply JI.cond); exact rfl)
    | ((with_reducible apply Back.J.retM); exact rfl; exact rfl; (repeat (first | (with_reducible exact Res.nil) | ((with_reducible apply Res.tmp); exact rfl) | ((with_reducible apply Res.cell1); exact rfl; (repeat (first | with_reducible exact In.here | with_reducible apply In.there)); exact rfl) | ((with_reducible apply Res.cellN); exact rfl; (repeat (first | with_reducible exact In.here | with_reducible apply In.there)); (focus ((try simp only [nl, Nat.reduceAdd, Nat.reduceMul, Int.reduceToNat]); try exact rfl)); (focus (first | (simp only [nl, Nat.reduceAdd, Nat.reduceMul, Int.reduceToNat]; done) | exact rfl))))); exact rfl)
    | ((with_reducible apply Back.J.retD); exact rfl; exact rfl; (repeat (first | (with_reducible exact Res.nil) | ((with_reducible apply Res.tmp); exact rfl) | ((with_reducible apply Res.cell1); exact rfl; (repeat (first | with_reducible exact In.here | with_reducible apply In.there)); exact rfl) | ((with_reducible apply Res.cellN); exact rfl; (repeat (first | with_reducible exact In.here | with_reducible apply In.there)); (focus ((try simp only [nl, Nat.reduceAdd, Nat.reduceMul, Int.reduceToNat]); try exact rfl)); (focus (first | (simp only [nl, Nat.reduceAdd, Nat.reduceMul, Int.reduceToNat]; done) | exact rfl))))); exact rfl)
    | (with_reducible apply J.seq)
    | (with_reducible apply J.region_lit)
    | (with_reducible apply J.ops_nil)
    | (with_reducible apply J.app_cons)
    | (with_reducible apply J.app_nil)
    | (with_reducible apply J.then_)
    | (with_reducible apply J.blk_)
    | (with_reducible apply J.skip)
    | (with_reducible apply J.block)
    | ((with_reducible apply J.q0); exact rfl; focus (first
      | ((with_reducible apply Qv.sliceAll); exact rfl)
      | ((with_reducible apply Qv.pure); exact rfl)
      | ((with_reducible apply Qv.fieldAddr); exact rfl; (focus ((try simp only [nl, Nat.reduceAdd, Nat.reduceMul, Int.reduceToNat]); try exact rfl)))
      | ((with_reducible first | apply Qv.indexArr | apply Qv.indexBlk | apply Qv.indexN); exact rfl; exact rfl; (first | decide | omega | (constructor <;> omega)); (focus ((try simp only [nl, Nat.reduceAdd, Nat.reduceMul, Int.reduceToNat]); try exact rfl)))
      | ((with_reducible apply Qv.field1); exact rfl; exact rfl)
      | ((with_reducible apply Qv.fieldN); exact rfl; (focus ((try simp only [nl, Nat.reduceAdd, Nat.reduceMul, Int.reduceToNat]); try exact rfl)))
      | ((with_reducible apply Qv.index1); exact rfl; exact rfl; (first | decide | omega | (constructor <;> omega)); exact rfl)
      | ((with_reducible first | apply Qv.add | apply Qv.sub | apply Qv.mul); exact rfl; exact rfl; (first | exact wr64 (by omega) (by omega) (by (try simp only [Int.reduceAdd, Int.reduceSub, Int.reduceMul]); exact rfl) | exact wru64 (by omega) (by omega) (by (try simp only [Int.reduceAdd, Int.reduceSub, Int.reduceMul]); exact rfl) | exact rfl))
      | ((with_reducible apply Qv.conv); exact rfl; (first | exact wr64 (by omega) (by omega) (by (try simp only [Int.reduceAdd, Int.reduceSub, Int.reduceMul]); exact rfl) | exact wru64 (by omega) (by omega) (by (try simp only [Int.reduceAdd, Int.reduceSub, Int.reduceMul]); exact rfl) | exact rfl))
      | ((with_reducible first | apply Qv.eqlB | apply Qv.neqB); exact rfl; exact rfl)
      | ((with_reducible first | apply Qv.buildA | apply Qv.buildS); exact rfl; (simp only [bfill, nl, Nat.reduceAdd, Nat.reduceMul, Int.reduceToNat, List.getElem?_cons_zero, List.getElem?_cons_succ, Nat.reduceLeDiff, Nat.le_refl, and_self, if_true, eq_self]; exact rfl))
      | ((with_reducible apply Qv.quoP); exact rfl; exact rfl; (first | decide | omega); (omega); (first | exact wr64 (by omega) (by omega) rfl | exact wru64 (by omega) (by omega) rfl))
      | ((with_reducible apply Qv.remP); exact rfl; exact rfl; (first | decide | omega); omega)
      | ((with_reducible apply Qv.rem); exact rfl; exact rfl; (first | decide | omega); exact rfl)
      | ((with_reducible apply Qv.quo); exact rfl; exact rfl; (first | decide | omega); (first | exact wr64 (by omega) (by omega) (by (try simp only [Int.reduceAdd, Int.reduceSub, Int.reduceMul]); exact rfl) | exact wru64 (by omega) (by omega) (by (try simp only [Int.reduceAdd, Int.reduceSub, Int.reduceMul]); exact rfl) | exact rfl))
      | ((with_reducible apply Qv.shl); exact rfl; exact rfl; (first | decide | omega); (first | (first | exact wr64 (by omega) (by omega) (by (try simp only [Int.reduceAdd, Int.reduceSub, Int.reduceMul]); exact rfl) | exact wru64 (by omega) (by omega) (by (try simp only [Int.reduceAdd, Int.reduceSub, Int.reduceMul]); exact rfl) | exact rfl) | exact rfl))
      | ((with_reducible apply Qv.shr); exact rfl; exact rfl; (first | decide | omega); exact rfl)
      | ((with_reducible apply Qv.lenS); exact rfl)
      | ((with_reducible apply Qv.lenStr); exact rfl)
      | ((with_reducible apply Qv.capS); exact rfl)
      | ((with_reducible apply Qv.max); exact rfl; exact rfl)
      | ((with_reducible apply Qv.min); exact rfl; exact rfl)))
    | ((with_reducible apply J.q1); exact rfl; focus (first
      | ((with_reducible apply Qr.load1); exact rfl; (repeat (first | with_reducible exact In.here | with_reducible apply In.there)); exact rfl)
      | ((with_reducible apply Qr.loadN); exact rfl; (repeat (first | with_reducible exact In.here | with_reducible apply In.there)); (focus ((try simp only [nl, Nat.reduceAdd, Nat.reduceMul, Int.reduceToNat]); try exact rfl)); (focus (first | (simp only [nl, Nat.reduceAdd, Nat.reduceMul, Int.reduceToNat]; done) | exact rfl)))
      | ((with_reducible apply Qr.row1); exact rfl; (repeat (first | with_reducible exact In.here | with_reducible apply In.there)); exact rfl)
      | ((with_reducible apply Qr.rowN); exact rfl; (repeat (first | with_reducible exact In.here | with_reducible apply In.there)); (focus ((try simp only [nl, Nat.reduceAdd, Nat.reduceMul, Int.reduceToNat]); try exact rfl)); exact rfl)
      | ((with_reducible apply Qr.lenRow); exact rfl; (repeat (first | with_reducible exact In.here | with_reducible apply In.there)))))
    | ((with_reducible apply J.guard_on); exact rfl; exact rfl)
    | ((with_reducible apply J.guard_off); exact rfl; exact rfl; exact rfl; exact rfl)
    | ((with_reducible apply J.guard_off_none); exact rfl; exact rfl; exact rfl)
    | ((with_reducible apply J.gsplit); exact rfl; exact rfl)
    | ((with_reducible apply J.list); focus (first
      | ((with_reducible apply J.backs); exact rfl; exact rfl; intro _)
      | ((with_reducible apply J.buildSlice); exact rfl; exact rfl; exact rfl; exact rfl; exact rfl; (simp only [bfill, rep, List.replicate_succ, List.replicate_zero, List.flatten_cons, List.flatten_nil, nl, Nat.reduceAdd, Nat.reduceMul, Int.reduceToNat]; exact rfl); intro _)
      | ((with_reducible apply J.buildSlice0); exact rfl; intro _)
      | ((with_reducible apply J.append); exact rfl; exact rfl; (repeat (first | with_reducible exact Out.here | with_reducible apply Out.there)); exact rfl; (repeat (first | with_reducible exact In.here | with_reducible apply In.there)); (focus ((try simp only [nl, Nat.reduceAdd, Nat.reduceMul, Int.reduceToNat]); try exact rfl)); exact rfl; exact rfl; exact rfl; exact rfl; exact rfl; (first | decide | (simp only [maxLen]; omega) | omega); (first | decide | (simp only [maxLen]; omega) | omega); intro _)
      | ((with_reducible apply J.appendNil); exact rfl; exact rfl; exact rfl; (repeat (first | with_reducible exact In.here | with_reducible apply In.there)); (focus ((try simp only [nl, Nat.reduceAdd, Nat.reduceMul, Int.reduceToNat]); try exact rfl)); exact rfl; exact rfl; exact rfl; exact rfl; exact rfl; (first | decide | (simp only [maxLen]; omega) | omega); (first | decide | (simp only [maxLen]; omega) | omega); intro _)
      | ((with_reducible apply J.boxN); exact rfl; exact rfl; intro _)
      | ((with_reducible apply J.box1); exact rfl; exact rfl; exact rfl; intro _)
      | ((with_reducible apply J.alloc); exact rfl; intro _)
      | ((with_reducible apply J.storeN); exact rfl; exact rfl; (repeat (first | with_reducible exact Upd.here | with_reducible apply Upd.there)); (focus ((try simp only [nl, Nat.reduceAdd, Nat.reduceMul, Int.reduceToNat]); try exact rfl)); (focus (first | (simp only [nl, Nat.reduceAdd, Nat.reduceMul, Int.reduceToNat]; done) | exact rfl)); (focus (first | (simp only [nl, Nat.reduceAdd, Nat.reduceMul, Int.reduceToNat]; done) | (simp only [nl, Nat.reduceAdd, Nat.reduceMul, Int.reduceToNat]; omega) | decide)); (first | (with_reducible exact wvs_ones _ _) | ((with_reducible apply tab_ones); intro _; rfl) | exact rfl))
      | ((with_reducible apply J.store1); exact rfl; exact rfl; exact rfl; (repeat (first | with_reducible exact Upd.here | with_reducible apply Upd.there)); (focus ((try simp only [nl, Nat.reduceAdd, Nat.reduceMul, Int.reduceToNat]); try exact rfl)); (first | decide | (simp only [nl, Nat.reduceAdd, Nat.reduceMul, Int.reduceToNat]; omega)))))
    | ((with_reducible apply J.cond_true); exact rfl)
    | ((with_reducible apply J.cond_false); exact rfl)
    | ((with_reducible apply J.cond); exact rfl)
    | (intro h; exfalso; (first | (simp at h; done) | (simp at h; omega)))
    | (intro h; (try simp only [decide_eq_true_eq, decide_eq_false_iff_not, beq_iff_eq, beq_eq_false_iff_ne, Bool.not_eq_true', Bool.not_eq_false', bne_iff_ne, bne_eq_false_iff_eq, ne_eq, ge_iff_le, gt_iff_lt] at h))
    | (with_reducible apply J.cret)
    | ((with_reducible apply J.ret); exact rfl; exact rfl; (repeat (first | (with_reducible exact Res.nil) | ((with_reducible apply Res.tmp); exact rfl) | ((with_reducible apply Res.cell1); exact rfl; (repeat (first | with_reducible exact In.here | with_reducible apply In.there)); exact rfl) | ((with_reducible apply Res.cellN); exact rfl; (repeat (first | with_reducible exact In.here | with_reducible apply In.there)); (focus ((try simp only [nl, Nat.reduceAdd, Nat.reduceMul, Int.reduceToNat]); try exact rfl)); (focus (first | (simp only [nl, Nat.reduceAdd, Nat.reduceMul, Int.reduceToNat]; done) | exact rfl))))); exact rfl)
    | ((with_reducible apply J.ret_normal); exact rfl; exact rfl; (repeat (first | (with_reducible exact Res.nil) | ((with_reducible apply Res.tmp); exact rfl) | ((with_reducible apply Res.cell1); exact rfl; (repeat (first | with_reducible exact In.here | with_reducible apply In.there)); exact rfl) | ((with_reducible apply Res.cellN); exact rfl; (repeat (first | with_reducible exact In.here | with_reducible apply In.there)); (focus ((try simp only [nl, Nat.reduceAdd, Nat.reduceMul, Int.reduceToNat]); try exact rfl)); (focus (first | (simp only [nl, Nat.reduceAdd, Nat.reduceMul, Int.reduceToNat]; done) | exact rfl))))); exact rfl)
    | (with_reducible apply J.gave')
    | ((with_reducible apply J.kept'); rotate_left; (repeat (first | (with_reducible exact Outs.nil) | ((with_reducible apply Outs.cons); (repeat (first | with_reducible exact Out.here | with_reducible apply Out.there))))))
    | (with_reducible apply J.exit)
    | (with_reducible apply J.then_ret)
    | (with_reducible apply J.then_exit)
    | (with_reducible apply J.then_panic)
    | (with_reducible apply J.blk_ret)
    | (with_reducible apply J.blk_panic)
    | (with_reducible apply J.blk_exit)
    | ((with_reducible apply J.blk_past); exact rfl)
  rename_i p2 p3 p4 Bs
  apply J.rangeBack (g := 8) (p1 := 9) (p2 := 10) Bs p2 (w4 a0 a1 a2 a3) (fun k => (k ≤ 3 → a3 = b3) ∧ (k ≤ 2 → a2 = b2) ∧ (k ≤ 1 → a1 = b1) ∧ (k ≤ 0 → a0 = b0)) (fun _ => [blk p2 [.int .u64 a0, .int .u64 a1, .int .u64 a2, .int .u64 a3] 24, blk p3 [.int .u64 b0, .int .u64 b1, .int .u64 b2, .int .u64 b3] 24, blk p4 [.int .i64 0] 3, blk Bs [.slice (some ⟨p2, 0, none⟩) 4 4] 122]) [blk p4 [.int .i64 (wcmp (a0 + 18446744073709551616 * a1 + 340282366920938463463374607431768211456 * a2 + 6277101735386680763835789423207666416102355444464034512896 * a3) (b0 + 18446744073709551616 * b1 + 340282366920938463463374607431768211456 * b2 + 6277101735386680763835789423207666416102355444464034512896 * b3))] 3] (fun k => [(5, .int .i64 (k : Int)), (6, .int .u64 (w4 a0 a1 a2 a3 k)), (3, .pointer (some ⟨p3, 0, none⟩)), (4, .pointer (some ⟨p4, 0, none⟩))])
  case hg => rfl
  case hp1 => rfl
  case hp2 => rfl
  case hB => exact fun k => ⟨_, by (repeat (first | with_reducible exact In.here | with_reducible apply In.there))⟩
  case hx => exact four ⟨_, _, .here, rfl⟩ ⟨_, _, .here, rfl⟩ ⟨_, _, .here, rfl⟩ ⟨_, _, .here, rfl⟩
  case hI => (refine ⟨?_, ?_, ?_, ?_⟩ <;> omega)
  case ho => ((try dsimp only); (repeat (first | (with_reducible exact Outs.nil) | ((with_reducible apply Outs.cons); (repeat (first | with_reducible exact Out.here | with_reducible apply Out.there))))))
  case hassign =>
    intro ll k A
    repeat' first
      | (with_reducible apply JI.seq)
      | (with_reducible apply JI.region_lit)
      | (with_reducible apply JI.nil)
      | (with_reducible apply JI.skip)
      | (with_reducible apply JI.cret)
      | (with_reducible apply JI.block)
      | (with_reducible apply J.np_ret)
      | ((with_reducible apply JI.q0); (focus (intro cl h; cases h)); exact rfl; (focus (first
        | ((with_reducible apply Qv.sliceAll); exact rfl)
        | ((with_reducible apply Qv.pure); exact rfl)
        | ((with_reducible apply Qv.fieldAddr); exact rfl; (focus ((try simp only [nl, Nat.reduceAdd, Nat.reduceMul, Int.reduceToNat]); try exact rfl)))
        | ((with_reducible first | apply Qv.indexArr | apply Qv.indexBlk | apply Qv.indexN); exact rfl; exact rfl; (first | decide | omega | (constructor <;> omega)); (focus ((try simp only [nl, Nat.reduceAdd, Nat.reduceMul, Int.reduceToNat]); try exact rfl)))
        | ((with_reducible apply Qv.field1); exact rfl; exact rfl)
        | ((with_reducible apply Qv.fieldN); exact rfl; (focus ((try simp only [nl, Nat.reduceAdd, Nat.reduceMul, Int.reduceToNat]); try exact rfl)))
        | ((with_reducible apply Qv.index1); exact rfl; exact rfl; (first | decide | omega | (constructor <;> omega)); exact rfl)
        | ((with_reducible first | apply Qv.add | apply Qv.sub | apply Qv.mul); exact rfl; exact rfl; (first | exact wr64 (by omega) (by omega) (by (try simp only [Int.reduceAdd, Int.reduceSub, Int.reduceMul]); exact rfl) | exact wru64 (by omega) (by omega) (by (try simp only [Int.reduceAdd, Int.reduceSub, Int.reduceMul]); exact rfl) | exact rfl))
        | ((with_reducible apply Qv.conv); exact rfl; (first | exact wr64 (by omega) (by omega) (by (try simp only [Int.reduceAdd, Int.reduceSub, Int.reduceMul]); exact rfl) | exact wru64 (by omega) (by omega) (by (try simp only [Int.reduceAdd, Int.reduceSub, Int.reduceMul]); exact rfl) | exact rfl))
        | ((with_reducible first | apply Qv.eqlB | apply Qv.neqB); exact rfl; exact rfl)
        | ((with_reducible first | apply Qv.buildA | apply Qv.buildS); exact rfl; (simp only [bfill, nl, Nat.reduceAdd, Nat.reduceMul, Int.reduceToNat, List.getElem?_cons_zero, List.getElem?_cons_succ, Nat.reduceLeDiff, Nat.le_refl, and_self, if_true, eq_self]; exact rfl))
        | ((with_reducible apply Qv.quoP); exact rfl; exact rfl; (first | decide | omega); (omega); (first | exact wr64 (by omega) (by omega) rfl | exact wru64 (by omega) (by omega) rfl))
        | ((with_reducible apply Qv.remP); exact rfl; exact rfl; (first | decide | omega); omega)
        | ((with_reducible apply Qv.rem); exact rfl; exact rfl; (first | decide | omega); exact rfl)
        | ((with_reducible apply Qv.quo); exact rfl; exact rfl; (first | decide | omega); (first | exact wr64 (by omega) (by omega) (by (try simp only [Int.reduceAdd, Int.reduceSub, Int.reduceMul]); exact rfl) | exact wru64 (by omega) (by omega) (by (try simp only [Int.reduceAdd, Int.reduceSub, Int.reduceMul]); exact rfl) | exact rfl))
        | ((with_reducible apply Qv.shl); exact rfl; exact rfl; (first | decide | omega); (first | (first | exact wr64 (by omega) (by omega) (by (try simp only [Int.reduceAdd, Int.reduceSub, Int.reduceMul]); exact rfl) | exact wru64 (by omega) (by omega) (by (try simp only [Int.reduceAdd, Int.reduceSub, Int.reduceMul]); exact rfl) | exact rfl) | exact rfl))
        | ((with_reducible apply Qv.shr); exact rfl; exact rfl; (first | decide | omega); exact rfl)
        | ((with_reducible apply Qv.lenS); exact rfl)
        | ((with_reducible apply Qv.lenStr); exact rfl)
        | ((with_reducible apply Qv.capS); exact rfl)
        | ((with_reducible apply Qv.max); exact rfl; exact rfl)
        | ((with_reducible apply Qv.min); exact rfl; exact rfl))))
      | ((with_reducible apply JI.q1); (focus (intro cl h; cases h)); exact rfl; (focus (first
        | ((with_reducible apply Qr.load1); exact rfl; (repeat (first | with_reducible exact In.here | with_reducible apply In.there)); exact rfl)
        | ((with_reducible apply Qr.loadN); exact rfl; (repeat (first | with_reducible exact In.here | with_reducible apply In.there)); (focus ((try simp only [nl, Nat.reduceAdd, Nat.reduceMul, Int.reduceToNat]); try exact rfl)); (focus (first | (simp only [nl, Nat.reduceAdd, Nat.reduceMul, Int.reduceToNat]; done) | exact rfl)))
        | ((with_reducible apply Qr.row1); exact rfl; (repeat (first | with_reducible exact In.here | with_reducible apply In.there)); exact rfl)
        | ((with_reducible apply Qr.rowN); exact rfl; (repeat (first | with_reducible exact In.here | with_reducible apply In.there)); (focus ((try simp only [nl, Nat.reduceAdd, Nat.reduceMul, Int.reduceToNat]); try exact rfl)); exact rfl)
        | ((with_reducible apply Qr.lenRow); exact rfl; (repeat (first | with_reducible exact In.here | with_reducible apply In.there))))))
      | ((with_reducible apply JI.store1); exact rfl; exact rfl; exact rfl; (repeat (first | with_reducible exact Upd.here | with_reducible apply Upd.there)); (focus ((try simp only [nl, Nat.reduceAdd, Nat.reduceMul, Int.reduceToNat]); try exact rfl)); (first | decide | (simp only [nl, Nat.reduceAdd, Nat.reduceMul, Int.reduceToNat]; omega)))
      | ((with_reducible apply JI.call); exact rfl; focus (first
        | fail))
      | ((with_reducible apply JI.cond); exact rfl)
      | ((with_reducible apply Back.J.retM); exact rfl; exact rfl; (repeat (first | (with_reducible exact Res.nil) | ((with_reducible apply Res.tmp); exact rfl) | ((with_reducible apply Res.cell1); exact rfl; (repeat (first | with_reducible exact In.here | with_reducible apply In.there)); exact rfl) | ((with_reducible apply Res.cellN); exact rfl; (repeat (first | with_reducible exact In.here | with_reducible apply In.there)); (focus ((try simp only [nl, Nat.reduceAdd, Nat.reduceMul, Int.reduceToNat]); try exact rfl)); (focus (first | (simp only [nl, Nat.reduceAdd, Nat.reduceMul, Int.reduceToNat]; done) | exact rfl))))); exact rfl)
      | ((with_reducible apply Back.J.retD); exact rfl; exact rfl; (repeat (first | (with_reducible exact Res.nil) | ((with_reducible apply Res.tmp); exact rfl) | ((with_reducible apply Res.cell1); exact rfl; (repeat (first | with_reducible exact In.here | with_reducible apply In.there)); exact rfl) | ((with_reducible apply Res.cellN); exact rfl; (repeat (first | with_reducible exact In.here | with_reducible apply In.there)); (focus ((try simp only [nl, Nat.reduceAdd, Nat.reduceMul, Int.reduceToNat]); try exact rfl)); (focus (first | (simp only [nl, Nat.reduceAdd, Nat.reduceMul, Int.reduceToNat]; done) | exact rfl))))); exact rfl)
      | (with_reducible apply J.seq)
      | (with_reducible apply J.region_lit)
      | (with_reducible apply J.ops_nil)
      | (with_reducible apply J.app_cons)
      | (with_reducible apply J.app_nil)
      | (with_reducible apply J.then_)
      | (with_reducible apply J.blk_)
      | (with_reducible apply J.skip)
      | (with_reducible apply J.block)
      | ((with_reducible apply J.q0); exact rfl; focus (first
        | ((with_reducible apply Qv.sliceAll); exact rfl)
        | ((with_reducible apply Qv.pure); exact rfl)
        | ((with_reducible apply Qv.fieldAddr); exact rfl; (focus ((try simp only [nl, Nat.reduceAdd, Nat.reduceMul, Int.reduceToNat]); try exact rfl)))
        | ((with_reducible first | apply Qv.indexArr | apply Qv.indexBlk | apply Qv.indexN); exact rfl; exact rfl; (first | decide | omega | (constructor <;> omega)); (focus ((try simp only [nl, Nat.reduceAdd, Nat.reduceMul, Int.reduceToNat]); try exact rfl)))
        | ((with_reducible apply Qv.field1); exact rfl; exact rfl)
        | ((with_reducible apply Qv.fieldN); exact rfl; (focus ((try simp only [nl, Nat.reduceAdd, Nat.reduceMul, Int.reduceToNat]); try exact rfl)))
        | ((with_reducible apply Qv.index1); exact rfl; exact rfl; (first | decide | omega | (constructor <;> omega)); exact rfl)
        | ((with_reducible first | apply Qv.add | apply Qv.sub | apply Qv.mul); exact rfl; exact rfl; (first | exact wr64 (by omega) (by omega) (by (try simp only [Int.reduceAdd, Int.reduceSub, Int.reduceMul]); exact rfl) | exact wru64 (by omega) (by omega) (by (try simp only [Int.reduceAdd, Int.reduceSub, Int.reduceMul]); exact rfl) | exact rfl))
        | ((with_reducible apply Qv.conv); exact rfl; (first | exact wr64 (by omega) (by omega) (by (try simp only [Int.reduceAdd, Int.reduceSub, Int.reduceMul]); exact rfl) | exact wru64 (by omega) (by omega) (by (try simp only [Int.reduceAdd, Int.reduceSub, Int.reduceMul]); exact rfl) | exact rfl))
        | ((with_reducible first | apply Qv.eqlB | apply Qv.neqB); exact rfl; exact rfl)
        | ((with_reducible first | apply Qv.buildA | apply Qv.buildS); exact rfl; (simp only [bfill, nl, Nat.reduceAdd, Nat.reduceMul, Int.reduceToNat, List.getElem?_cons_zero, List.getElem?_cons_succ, Nat.reduceLeDiff, Nat.le_refl, and_self, if_true, eq_self]; exact rfl))
        | ((with_reducible apply Qv.quoP); exact rfl; exact rfl; (first | decide | omega); (omega); (first | exact wr64 (by omega) (by omega) rfl | exact wru64 (by omega) (by omega) rfl))
        | ((with_reducible apply Qv.remP); exact rfl; exact rfl; (first | decide | omega); omega)
        | ((with_reducible apply Qv.rem); exact rfl; exact rfl; (first | decide | omega); exact rfl)
        | ((with_reducible apply Qv.quo); exact rfl; exact rfl; (first | decide | omega); (first | exact wr64 (by omega) (by omega) (by (try simp only [Int.reduceAdd, Int.reduceSub, Int.reduceMul]); exact rfl) | exact wru64 (by omega) (by omega) (by (try simp only [Int.reduceAdd, Int.reduceSub, Int.reduceMul]); exact rfl) | exact rfl))
        | ((with_reducible apply Qv.shl); exact rfl; exact rfl; (first | decide | omega); (first | (first | exact wr64 (by omega) (by omega) (by (try simp only [Int.reduceAdd, Int.reduceSub, Int.reduceMul]); exact rfl) | exact wru64 (by omega) (by omega) (by (try simp only [Int.reduceAdd, Int.reduceSub, Int.reduceMul]); exact rfl) | exact rfl) | exact rfl))
        | ((with_reducible apply Qv.shr); exact rfl; exact rfl; (first | decide | omega); exact rfl)
        | ((with_reducible apply Qv.lenS); exact rfl)
        | ((with_reducible apply Qv.lenStr); exact rfl)
        | ((with_reducible apply Qv.capS); exact rfl)
        | ((with_reducible apply Qv.max); exact rfl; exact rfl)
        | ((with_reducible apply Qv.min); exact rfl; exact rfl)))
      | ((with_reducible apply J.q1); exact rfl; focus (first
        | ((with_reducible apply Qr.load1); exact rfl; (repeat (first | with_reducible exact In.here | with_reducible apply In.there)); exact rfl)
        | ((with_reducible apply Qr.loadN); exact rfl; (repeat (first | with_reducible exact In.here | with_reducible apply In.there)); (focus ((try simp only [nl, Nat.reduceAdd, Nat.reduceMul, Int.reduceToNat]); try exact rfl)); (focus (first | (simp only [nl, Nat.reduceAdd, Nat.reduceMul, Int.reduceToNat]; done) | exact rfl)))
        | ((with_reducible apply Qr.row1); exact rfl; (repeat (first | with_reducible exact In.here | with_reducible apply In.there)); exact rfl)
        | ((with_reducible apply Qr.rowN); exact rfl; (repeat (first | with_reducible exact In.here | with_reducible apply In.there)); (focus ((try simp only [nl, Nat.reduceAdd, Nat.reduceMul, Int.reduceToNat]); try exact rfl)); exact rfl)
        | ((with_reducible apply Qr.lenRow); exact rfl; (repeat (first | with_reducible exact In.here | with_reducible apply In.there)))))
      | ((with_reducible apply J.guard_on); exact rfl; exact rfl)
      | ((with_reducible apply J.guard_off); exact rfl; exact rfl; exact rfl; exact rfl)
      | ((with_reducible apply J.guard_off_none); exact rfl; exact rfl; exact rfl)
      | ((with_reducible apply J.gsplit); exact rfl; exact rfl)
      | ((with_reducible apply J.list); focus (first
        | ((with_reducible apply J.backs); exact rfl; exact rfl; intro _)
        | ((with_reducible apply J.buildSlice); exact rfl; exact rfl; exact rfl; exact rfl; exact rfl; (simp only [bfill, rep, List.replicate_succ, List.replicate_zero, List.flatten_cons, List.flatten_nil, nl, Nat.reduceAdd, Nat.reduceMul, Int.reduceToNat]; exact rfl); intro _)
        | ((with_reducible apply J.buildSlice0); exact rfl; intro _)
        | ((with_reducible apply J.append); exact rfl; exact rfl; (repeat (first | with_reducible exact Out.here | with_reducible apply Out.there)); exact rfl; (repeat (first | with_reducible exact In.here | with_reducible apply In.there)); (focus ((try simp only [nl, Nat.reduceAdd, Nat.reduceMul, Int.reduceToNat]); try exact rfl)); exact rfl; exact rfl; exact rfl; exact rfl; exact rfl; (first | decide | (simp only [maxLen]; omega) | omega); (first | decide | (simp only [maxLen]; omega) | omega); intro _)
        | ((with_reducible apply J.appendNil); exact rfl; exact rfl; exact rfl; (repeat (first | with_reducible exact In.here | with_reducible apply In.there)); (focus ((try simp only [nl, Nat.reduceAdd, Nat.reduceMul, Int.reduceToNat]); try exact rfl)); exact rfl; exact rfl; exact rfl; exact rfl; exact rfl; (first | decide | (simp only [maxLen]; omega) | omega); (first | decide | (simp only [maxLen]; omega) | omega); intro _)
        | ((with_reducible apply J.boxN); exact rfl; exact rfl; intro _)
        | ((with_reducible apply J.box1); exact rfl; exact rfl; exact rfl; intro _)
        | ((with_reducible apply J.alloc); exact rfl; intro _)
        | ((with_reducible apply J.storeN); exact rfl; exact rfl; (repeat (first | with_reducible exact Upd.here | with_reducible apply Upd.there)); (focus ((try simp only [nl, Nat.reduceAdd, Nat.reduceMul, Int.reduceToNat]); try exact rfl)); (focus (first | (simp only [nl, Nat.reduceAdd, Nat.reduceMul, Int.reduceToNat]; done) | exact rfl)); (focus (first | (simp only [nl, Nat.reduceAdd, Nat.reduceMul, Int.reduceToNat]; done) | (simp only [nl, Nat.reduceAdd, Nat.reduceMul, Int.reduceToNat]; omega) | decide)); (first | (with_reducible exact wvs_ones _ _) | ((with_reducible apply tab_ones); intro _; rfl) | exact rfl))
        | ((with_reducible apply J.store1); exact rfl; exact rfl; exact rfl; (repeat (first | with_reducible exact Upd.here | with_reducible apply Upd.there)); (focus ((try simp only [nl, Nat.reduceAdd, Nat.reduceMul, Int.reduceToNat]); try exact rfl)); (first | decide | (simp only [nl, Nat.reduceAdd, Nat.reduceMul, Int.reduceToNat]; omega)))))
      | ((with_reducible apply J.cond_true); exact rfl)
      | ((with_reducible apply J.cond_false); exact rfl)
      | ((with_reducible apply J.cond); exact rfl)
      | (intro h; exfalso; (first | (simp at h; done) | (simp at h; omega)))
      | (intro h; (try simp only [decide_eq_true_eq, decide_eq_false_iff_not, beq_iff_eq, beq_eq_false_iff_ne, Bool.not_eq_true', Bool.not_eq_false', bne_iff_ne, bne_eq_false_iff_eq, ne_eq, ge_iff_le, gt_iff_lt] at h))
      | (with_reducible apply J.cret)
      | ((with_reducible apply J.ret); exact rfl; exact rfl; (repeat (first | (with_reducible exact Res.nil) | ((with_reducible apply Res.tmp); exact rfl) | ((with_reducible apply Res.cell1); exact rfl; (repeat (first | with_reducible exact In.here | with_reducible apply In.there)); exact rfl) | ((with_reducible apply Res.cellN); exact rfl; (repeat (first | with_reducible exact In.here | with_reducible apply In.there)); (focus ((try simp only [nl, Nat.reduceAdd, Nat.reduceMul, Int.reduceToNat]); try exact rfl)); (focus (first | (simp only [nl, Nat.reduceAdd, Nat.reduceMul, Int.reduceToNat]; done) | exact rfl))))); exact rfl)
      | ((with_reducible apply J.ret_normal); exact rfl; exact rfl; (repeat (first | (with_reducible exact Res.nil) | ((with_reducible apply Res.tmp); exact rfl) | ((with_reducible apply Res.cell1); exact rfl; (repeat (first | with_reducible exact In.here | with_reducible apply In.there)); exact rfl) | ((with_reducible apply Res.cellN); exact rfl; (repeat (first | with_reducible exact In.here | with_reducible apply In.there)); (focus ((try simp only [nl, Nat.reduceAdd, Nat.reduceMul, Int.reduceToNat]); try exact rfl)); (focus (first | (simp only [nl, Nat.reduceAdd, Nat.reduceMul, Int.reduceToNat]; done) | exact rfl))))); exact rfl)
      | (with_reducible apply J.gave')
      | ((with_reducible apply J.kept'); rotate_left; (repeat (first | (with_reducible exact Outs.nil) | ((with_reducible apply Outs.cons); (repeat (first | with_reducible exact Out.here | with_reducible apply Out.there))))))
      | (with_reducible apply J.exit)
      | (with_reducible apply J.then_ret)
      | (with_reducible apply J.then_exit)
      | (with_reducible apply J.then_panic)
      | (with_reducible apply J.blk_ret)
      | (with_reducible apply J.blk_panic)
      | (with_reducible apply J.blk_exit)
      | ((with_reducible apply J.blk_past); exact rfl)
    all_goals ((try dsimp only); apply J.stE; repeat (first | exact sub.nil _ | (refine sub.cons rfl ?_)))
  case hbody =>
    intro ll D rc k hk hI
    obtain ⟨i3, i2, i1, i0⟩ := hI
    rcases (by omega : k = 0 ∨ k = 1 ∨ k = 2 ∨ k = 3) with rfl | rfl | rfl | rfl
    all_goals
      simp only [w4]
      repeat' first
        | (with_reducible apply JI.seq)
        | (with_reducible apply JI.region_lit)
        | (with_reducible apply JI.nil)
        | (with_reducible apply JI.skip)
        | (with_reducible apply JI.cret)
        | (with_reducible apply JI.block)
        | (with_reducible apply J.np_ret)
        | ((with_reducible apply JI.q0); (focus (intro cl h; cases h)); exact rfl; (focus (first
          | ((with_reducible apply Qv.sliceAll); exact rfl)
          | ((with_reducible apply Qv.pure); exact rfl)
          | ((with_reducible apply Qv.fieldAddr); exact rfl; (focus ((try simp only [nl, Nat.reduceAdd, Nat.reduceMul, Int.reduceToNat]); try exact rfl)))
          | ((with_reducible first | apply Qv.indexArr | apply Qv.indexBlk | apply Qv.indexN); exact rfl; exact rfl; (first | decide | omega | (constructor <;> omega)); (focus ((try simp only [nl, Nat.reduceAdd, Nat.reduceMul, Int.reduceToNat]); try exact rfl)))
          | ((with_reducible apply Qv.field1); exact rfl; exact rfl)
          | ((with_reducible apply Qv.fieldN); exact rfl; (focus ((try simp only [nl, Nat.reduceAdd, Nat.reduceMul, Int.reduceToNat]); try exact rfl)))
          | ((with_reducible apply Qv.index1); exact rfl; exact rfl; (first | decide | omega | (constructor <;> omega)); exact rfl)
          | ((with_reducible first | apply Qv.add | apply Qv.sub | apply Qv.mul); exact rfl; exact rfl; (first | exact wr64 (by omega) (by omega) (by (try simp only [Int.reduceAdd, Int.reduceSub, Int.reduceMul]); exact rfl) | exact wru64 (by omega) (by omega) (by (try simp only [Int.reduceAdd, Int.reduceSub, Int.reduceMul]); exact rfl) | exact rfl))
          | ((with_reducible apply Qv.conv); exact rfl; (first | exact wr64 (by omega) (by omega) (by (try simp only [Int.reduceAdd, Int.reduceSub, Int.reduceMul]); exact rfl) | exact wru64 (by omega) (by omega) (by (try simp only [Int.reduceAdd, Int.reduceSub, Int.reduceMul]); exact rfl) | exact rfl))
          | ((with_reducible first | apply Qv.eqlB | apply Qv.neqB); exact rfl; exact rfl)
          | ((with_reducible first | apply Qv.buildA | apply Qv.buildS); exact rfl; (simp only [bfill, nl, Nat.reduceAdd, Nat.reduceMul, Int.reduceToNat, List.getElem?_cons_zero, List.getElem?_cons_succ, Nat.reduceLeDiff, Nat.le_refl, and_self, if_true, eq_self]; exact rfl))
          | ((with_reducible apply Qv.quoP); exact rfl; exact rfl; (first | decide | omega); (omega); (first | exact wr64 (by omega) (by omega) rfl | exact wru64 (by omega) (by omega) rfl))
          | ((with_reducible apply Qv.remP); exact rfl; exact rfl; (first | decide | omega); omega)
          | ((with_reducible apply Qv.rem); exact rfl; exact rfl; (first | decide | omega); exact rfl)
          | ((with_reducible apply Qv.quo); exact rfl; exact rfl; (first | decide | omega); (first | exact wr64 (by omega) (by omega) (by (try simp only [Int.reduceAdd, Int.reduceSub, Int.reduceMul]); exact rfl) | exact wru64 (by omega) (by omega) (by (try simp only [Int.reduceAdd, Int.reduceSub, Int.reduceMul]); exact rfl) | exact rfl))
          | ((with_reducible apply Qv.shl); exact rfl; exact rfl; (first | decide | omega); (first | (first | exact wr64 (by omega) (by omega) (by (try simp only [Int.reduceAdd, Int.reduceSub, Int.reduceMul]); exact rfl) | exact wru64 (by omega) (by omega) (by (try simp only [Int.reduceAdd, Int.reduceSub, Int.reduceMul]); exact rfl) | exact rfl) | exact rfl))
          | ((with_reducible apply Qv.shr); exact rfl; exact rfl; (first | decide | omega); exact rfl)
          | ((with_reducible apply Qv.lenS); exact rfl)
          | ((with_reducible apply Qv.lenStr); exact rfl)
          | ((with_reducible apply Qv.capS); exact rfl)
          | ((with_reducible apply Qv.max); exact rfl; exact rfl)
          | ((with_reducible apply Qv.min); exact rfl; exact rfl))))
        | ((with_reducible apply JI.q1); (focus (intro cl h; cases h)); exact rfl; (focus (first
          | ((with_reducible apply Qr.load1); exact rfl; (repeat (first | with_reducible exact In.here | with_reducible apply In.there)); exact rfl)
          | ((with_reducible apply Qr.loadN); exact rfl; (repeat (first | with_reducible exact In.here | with_reducible apply In.there)); (focus ((try simp only [nl, Nat.reduceAdd, Nat.reduceMul, Int.reduceToNat]); try exact rfl)); (focus (first | (simp only [nl, Nat.reduceAdd, Nat.reduceMul, Int.reduceToNat]; done) | exact rfl)))
          | ((with_reducible apply Qr.row1); exact rfl; (repeat (first | with_reducible exact In.here | with_reducible apply In.there)); exact rfl)
          | ((with_reducible apply Qr.rowN); exact rfl; (repeat (first | with_reducible exact In.here | with_reducible apply In.there)); (focus ((try simp only [nl, Nat.reduceAdd, Nat.reduceMul, Int.reduceToNat]); try exact rfl)); exact rfl)
          | ((with_reducible apply Qr.lenRow); exact rfl; (repeat (first | with_reducible exact In.here | with_reducible apply In.there))))))
        | ((with_reducible apply JI.store1); exact rfl; exact rfl; exact rfl; (repeat (first | with_reducible exact Upd.here | with_reducible apply Upd.there)); (focus ((try simp only [nl, Nat.reduceAdd, Nat.reduceMul, Int.reduceToNat]); try exact rfl)); (first | decide | (simp only [nl, Nat.reduceAdd, Nat.reduceMul, Int.reduceToNat]; omega)))
        | ((with_reducible apply JI.call); exact rfl; focus (first
          | fail))
        | ((with_reducible apply JI.cond); exact rfl)
        | ((with_reducible apply Back.J.retM); exact rfl; exact rfl; (repeat (first | (with_reducible exact Res.nil) | ((with_reducible apply Res.tmp); exact rfl) | ((with_reducible apply Res.cell1); exact rfl; (repeat (first | with_reducible exact In.here | with_reducible apply In.there)); exact rfl) | ((with_reducible apply Res.cellN); exact rfl; (repeat (first | with_reducible exact In.here | with_reducible apply In.there)); (focus ((try simp only [nl, Nat.reduceAdd, Nat.reduceMul, Int.reduceToNat]); try exact rfl)); (focus (first | (simp only [nl, Nat.reduceAdd, Nat.reduceMul, Int.reduceToNat]; done) | exact rfl))))); exact rfl)
        | ((with_reducible apply Back.J.retD); exact rfl; exact rfl; (repeat (first | (with_reducible exact Res.nil) | ((with_reducible apply Res.tmp); exact rfl) | ((with_reducible apply Res.cell1); exact rfl; (repeat (first | with_reducible exact In.here | with_reducible apply In.there)); exact rfl) | ((with_reducible apply Res.cellN); exact rfl; (repeat (first | with_reducible exact In.here | with_reducible apply In.there)); (focus ((try simp only [nl, Nat.reduceAdd, Nat.reduceMul, Int.reduceToNat]); try exact rfl)); (focus (first | (simp only [nl, Nat.reduceAdd, Nat.reduceMul, Int.reduceToNat]; done) | exact rfl))))); exact rfl)
        | (with_reducible apply J.seq)
        | (with_reducible apply J.region_lit)
        | (with_reducible apply J.ops_nil)
        | (with_reducible apply J.app_cons)
        | (with_reducible apply J.app_nil)
        | (with_reducible apply J.then_)
        | (with_reducible apply J.blk_)
        | (with_reducible apply J.skip)
        | (with_reducible apply J.block)
        | ((with_reducible apply J.q0); exact rfl; focus (first
          | ((with_reducible apply Qv.sliceAll); exact rfl)
          | ((with_reducible apply Qv.pure); exact rfl)
          | ((with_reducible apply Qv.fieldAddr); exact rfl; (focus ((try simp only [nl, Nat.reduceAdd, Nat.reduceMul, Int.reduceToNat]); try exact rfl)))
          | ((with_reducible first | apply Qv.indexArr | apply Qv.indexBlk | apply Qv.indexN); exact rfl; exact rfl; (first | decide | omega | (constructor <;> omega)); (focus ((try simp only [nl, Nat.reduceAdd, Nat.reduceMul, Int.reduceToNat]); try exact rfl)))
          | ((with_reducible apply Qv.field1); exact rfl; exact rfl)
          | ((with_reducible apply Qv.fieldN); exact rfl; (focus ((try simp only [nl, Nat.reduceAdd, Nat.reduceMul, Int.reduceToNat]); try exact rfl)))
          | ((with_reducible apply Qv.index1); exact rfl; exact rfl; (first | decide | omega | (constructor <;> omega)); exact rfl)
          | ((with_reducible first | apply Qv.add | apply Qv.sub | apply Qv.mul); exact rfl; exact rfl; (first | exact wr64 (by omega) (by omega) (by (try simp only [Int.reduceAdd, Int.reduceSub, Int.reduceMul]); exact rfl) | exact wru64 (by omega) (by omega) (by (try simp only [Int.reduceAdd, Int.reduceSub, Int.reduceMul]); exact rfl) | exact rfl))
          | ((with_reducible apply Qv.conv); exact rfl; (first | exact wr64 (by omega) (by omega) (by (try simp only [Int.reduceAdd, Int.reduceSub, Int.reduceMul]); exact rfl) | exact wru64 (by omega) (by omega) (by (try simp only [Int.reduceAdd, Int.reduceSub, Int.reduceMul]); exact rfl) | exact rfl))
          | ((with_reducible first | apply Qv.eqlB | apply Qv.neqB); exact rfl; exact rfl)
          | ((with_reducible first | apply Qv.buildA | apply Qv.buildS); exact rfl; (simp only [bfill, nl, Nat.reduceAdd, Nat.reduceMul, Int.reduceToNat, List.getElem?_cons_zero, List.getElem?_cons_succ, Nat.reduceLeDiff, Nat.le_refl, and_self, if_true, eq_self]; exact rfl))
          | ((with_reducible apply Qv.quoP); exact rfl; exact rfl; (first | decide | omega); (omega); (first | exact wr64 (by omega) (by omega) rfl | exact wru64 (by omega) (by omega) rfl))
          | ((with_reducible apply Qv.remP); exact rfl; exact rfl; (first | decide | omega); omega)
          | ((with_reducible apply Qv.rem); exact rfl; exact rfl; (first | decide | omega); exact rfl)
          | ((with_reducible apply Qv.quo); exact rfl; exact rfl; (first | decide | omega); (first | exact wr64 (by omega) (by omega) (by (try simp only [Int.reduceAdd, Int.reduceSub, Int.reduceMul]); exact rfl) | exact wru64 (by omega) (by omega) (by (try simp only [Int.reduceAdd, Int.reduceSub, Int.reduceMul]); exact rfl) | exact rfl))
          | ((with_reducible apply Qv.shl); exact rfl; exact rfl; (first | decide | omega); (first | (first | exact wr64 (by omega) (by omega) (by (try simp only [Int.reduceAdd, Int.reduceSub, Int.reduceMul]); exact rfl) | exact wru64 (by omega) (by omega) (by (try simp only [Int.reduceAdd, Int.reduceSub, Int.reduceMul]); exact rfl) | exact rfl) | exact rfl))
          | ((with_reducible apply Qv.shr); exact rfl; exact rfl; (first | decide | omega); exact rfl)
          | ((with_reducible apply Qv.lenS); exact rfl)
          | ((with_reducible apply Qv.lenStr); exact rfl)
          | ((with_reducible apply Qv.capS); exact rfl)
          | ((with_reducible apply Qv.max); exact rfl; exact rfl)
          | ((with_reducible apply Qv.min); exact rfl; exact rfl)))
        | ((with_reducible apply J.q1); exact rfl; focus (first
          | ((with_reducible apply Qr.load1); exact rfl; (repeat (first | with_reducible exact In.here | with_reducible apply In.there)); exact rfl)
          | ((with_reducible apply Qr.loadN); exact rfl; (repeat (first | with_reducible exact In.here | with_reducible apply In.there)); (focus ((try simp only [nl, Nat.reduceAdd, Nat.reduceMul, Int.reduceToNat]); try exact rfl)); (focus (first | (simp only [nl, Nat.reduceAdd, Nat.reduceMul, Int.reduceToNat]; done) | exact rfl)))
          | ((with_reducible apply Qr.row1); exact rfl; (repeat (first | with_reducible exact In.here | with_reducible apply In.there)); exact rfl)
          | ((with_reducible apply Qr.rowN); exact rfl; (repeat (first | with_reducible exact In.here | with_reducible apply In.there)); (focus ((try simp only [nl, Nat.reduceAdd, Nat.reduceMul, Int.reduceToNat]); try exact rfl)); exact rfl)
          | ((with_reducible apply Qr.lenRow); exact rfl; (repeat (first | with_reducible exact In.here | with_reducible apply In.there)))))
        | ((with_reducible apply J.guard_on); exact rfl; exact rfl)
        | ((with_reducible apply J.guard_off); exact rfl; exact rfl; exact rfl; exact rfl)
        | ((with_reducible apply J.guard_off_none); exact rfl; exact rfl; exact rfl)
        | ((with_reducible apply J.gsplit); exact rfl; exact rfl)
        | ((with_reducible apply J.list); focus (first
          | ((with_reducible apply J.backs); exact rfl; exact rfl; intro _)
          | ((with_reducible apply J.buildSlice); exact rfl; exact rfl; exact rfl; exact rfl; exact rfl; (simp only [bfill, rep, List.replicate_succ, List.replicate_zero, List.flatten_cons, List.flatten_nil, nl, Nat.reduceAdd, Nat.reduceMul, Int.reduceToNat]; exact rfl); intro _)
          | ((with_reducible apply J.buildSlice0); exact rfl; intro _)
          | ((with_reducible apply J.append); exact rfl; exact rfl; (repeat (first | with_reducible exact Out.here | with_reducible apply Out.there)); exact rfl; (repeat (first | with_reducible exact In.here | with_reducible apply In.there)); (focus ((try simp only [nl, Nat.reduceAdd, Nat.reduceMul, Int.reduceToNat]); try exact rfl)); exact rfl; exact rfl; exact rfl; exact rfl; exact rfl; (first | decide | (simp only [maxLen]; omega) | omega); (first | decide | (simp only [maxLen]; omega) | omega); intro _)
          | ((with_reducible apply J.appendNil); exact rfl; exact rfl; exact rfl; (repeat (first | with_reducible exact In.here | with_reducible apply In.there)); (focus ((try simp only [nl, Nat.reduceAdd, Nat.reduceMul, Int.reduceToNat]); try exact rfl)); exact rfl; exact rfl; exact rfl; exact rfl; exact rfl; (first | decide | (simp only [maxLen]; omega) | omega); (first | decide | (simp only [maxLen]; omega) | omega); intro _)
          | ((with_reducible apply J.boxN); exact rfl; exact rfl; intro _)
          | ((with_reducible apply J.box1); exact rfl; exact rfl; exact rfl; intro _)
          | ((with_reducible apply J.alloc); exact rfl; intro _)
          | ((with_reducible apply J.storeN); exact rfl; exact rfl; (repeat (first | with_reducible exact Upd.here | with_reducible apply Upd.there)); (focus ((try simp only [nl, Nat.reduceAdd, Nat.reduceMul, Int.reduceToNat]); try exact rfl)); (focus (first | (simp only [nl, Nat.reduceAdd, Nat.reduceMul, Int.reduceToNat]; done) | exact rfl)); (focus (first | (simp only [nl, Nat.reduceAdd, Nat.reduceMul, Int.reduceToNat]; done) | (simp only [nl, Nat.reduceAdd, Nat.reduceMul, Int.reduceToNat]; omega) | decide)); (first | (with_reducible exact wvs_ones _ _) | ((with_reducible apply tab_ones); intro _; rfl) | exact rfl))
          | ((with_reducible apply J.store1); exact rfl; exact rfl; exact rfl; (repeat (first | with_reducible exact Upd.here | with_reducible apply Upd.there)); (focus ((try simp only [nl, Nat.reduceAdd, Nat.reduceMul, Int.reduceToNat]); try exact rfl)); (first | decide | (simp only [nl, Nat.reduceAdd, Nat.reduceMul, Int.reduceToNat]; omega)))))
        | ((with_reducible apply J.cond_true); exact rfl)
        | ((with_reducible apply J.cond_false); exact rfl)
        | ((with_reducible apply J.cond); exact rfl)
        | (intro h; exfalso; (first | (simp at h; done) | (simp at h; omega)))
        | (intro h; (try simp only [decide_eq_true_eq, decide_eq_false_iff_not, beq_iff_eq, beq_eq_false_iff_ne, Bool.not_eq_true', Bool.not_eq_false', bne_iff_ne, bne_eq_false_iff_eq, ne_eq, ge_iff_le, gt_iff_lt] at h))
        | (with_reducible apply J.cret)
        | ((with_reducible apply J.ret); exact rfl; exact rfl; (repeat (first | (with_reducible exact Res.nil) | ((with_reducible apply Res.tmp); exact rfl) | ((with_reducible apply Res.cell1); exact rfl; (repeat (first | with_reducible exact In.here | with_reducible apply In.there)); exact rfl) | ((with_reducible apply Res.cellN); exact rfl; (repeat (first | with_reducible exact In.here | with_reducible apply In.there)); (focus ((try simp only [nl, Nat.reduceAdd, Nat.reduceMul, Int.reduceToNat]); try exact rfl)); (focus (first | (simp only [nl, Nat.reduceAdd, Nat.reduceMul, Int.reduceToNat]; done) | exact rfl))))); exact rfl)
        | ((with_reducible apply J.ret_normal); exact rfl; exact rfl; (repeat (first | (with_reducible exact Res.nil) | ((with_reducible apply Res.tmp); exact rfl) | ((with_reducible apply Res.cell1); exact rfl; (repeat (first | with_reducible exact In.here | with_reducible apply In.there)); exact rfl) | ((with_reducible apply Res.cellN); exact rfl; (repeat (first | with_reducible exact In.here | with_reducible apply In.there)); (focus ((try simp only [nl, Nat.reduceAdd, Nat.reduceMul, Int.reduceToNat]); try exact rfl)); (focus (first | (simp only [nl, Nat.reduceAdd, Nat.reduceMul, Int.reduceToNat]; done) | exact rfl))))); exact rfl)
        | (with_reducible apply J.gave')
        | ((with_reducible apply J.kept'); rotate_left; (repeat (first | (with_reducible exact Outs.nil) | ((with_reducible apply Outs.cons); (repeat (first | with_reducible exact Out.here | with_reducible apply Out.there))))))
        | (with_reducible apply J.exit)
        | (with_reducible apply J.then_ret)
        | (with_reducible apply J.then_exit)
        | (with_reducible apply J.then_panic)
        | (with_reducible apply J.blk_ret)
        | (with_reducible apply J.blk_panic)
        | (with_reducible apply J.blk_exit)
        | ((with_reducible apply J.blk_past); exact rfl)
    all_goals
      first
      | (apply J.lvN
         · (refine ⟨?_, ?_, ?_, ?_⟩ <;> omega)
         · (dsimp only [List.cons_append, List.nil_append]; (repeat (first | (with_reducible exact Outs.nil) | ((with_reducible apply Outs.cons); (repeat (first | with_reducible exact Out.here | with_reducible apply Out.there)))))))
      | (apply J.reB (b := p4) (C' := [.int .i64 (wcmp (a0 + 18446744073709551616 * a1 + 340282366920938463463374607431768211456 * a2 + 6277101735386680763835789423207666416102355444464034512896 * a3) (b0 + 18446744073709551616 * b1 + 340282366920938463463374607431768211456 * b2 + 6277101735386680763835789423207666416102355444464034512896 * b3))])
         · (repeat (first | with_reducible exact Upd.here | with_reducible apply Upd.there))
         · (unfold wcmp; split <;> (first | rfl | (exfalso; omega) | (split <;> (first | rfl | (exfalso; omega)))))
         apply J.lvR
         (dsimp only [List.cons_append, List.nil_append]; (repeat (first | (with_reducible exact Outs.nil) | ((with_reducible apply Outs.cons); (repeat (first | with_reducible exact Out.here | with_reducible apply Out.there)))))))
      | (trace_state; fail)
  case hdone =>
    intro hI D
    obtain ⟨i3, i2, i1, i0⟩ := hI
    repeat' first
      | (with_reducible apply JI.seq)
      | (with_reducible apply JI.region_lit)
      | (with_reducible apply JI.nil)
      | (with_reducible apply JI.skip)
      | (with_reducible apply JI.cret)
      | (with_reducible apply JI.block)
      | (with_reducible apply J.np_ret)
      | ((with_reducible apply JI.q0); (focus (intro cl h; cases h)); exact rfl; (focus (first
        | ((with_reducible apply Qv.sliceAll); exact rfl)
        | ((with_reducible apply Qv.pure); exact rfl)
        | ((with_reducible apply Qv.fieldAddr); exact rfl; (focus ((try simp only [nl, Nat.reduceAdd, Nat.reduceMul, Int.reduceToNat]); try exact rfl)))
        | ((with_reducible first | apply Qv.indexArr | apply Qv.indexBlk | apply Qv.indexN); exact rfl; exact rfl; (first | decide | omega | (constructor <;> omega)); (focus ((try simp only [nl, Nat.reduceAdd, Nat.reduceMul, Int.reduceToNat]); try exact rfl)))
        | ((with_reducible apply Qv.field1); exact rfl; exact rfl)
        | ((with_reducible apply Qv.fieldN); exact rfl; (focus ((try simp only [nl, Nat.reduceAdd, Nat.reduceMul, Int.reduceToNat]); try exact rfl)))
        | ((with_reducible apply Qv.index1); exact rfl; exact rfl; (first | decide | omega | (constructor <;> omega)); exact rfl)
        | ((with_reducible first | apply Qv.add | apply Qv.sub | apply Qv.mul); exact rfl; exact rfl; (first | exact wr64 (by omega) (by omega) (by (try simp only [Int.reduceAdd, Int.reduceSub, Int.reduceMul]); exact rfl) | exact wru64 (by omega) (by omega) (by (try simp only [Int.reduceAdd, Int.reduceSub, Int.reduceMul]); exact rfl) | exact rfl))
        | ((with_reducible apply Qv.conv); exact rfl; (first | exact wr64 (by omega) (by omega) (by (try simp only [Int.reduceAdd, Int.reduceSub, Int.reduceMul]); exact rfl) | exact wru64 (by omega) (by omega) (by (try simp only [Int.reduceAdd, Int.reduceSub, Int.reduceMul]); exact rfl) | exact rfl))
        | ((with_reducible first | apply Qv.eqlB | apply Qv.neqB); exact rfl; exact rfl)
        | ((with_reducible first | apply Qv.buildA | apply Qv.buildS); exact rfl; (simp only [bfill, nl, Nat.reduceAdd, Nat.reduceMul, Int.reduceToNat, List.getElem?_cons_zero, List.getElem?_cons_succ, Nat.reduceLeDiff, Nat.le_refl, and_self, if_true, eq_self]; exact rfl))
        | ((with_reducible apply Qv.quoP); exact rfl; exact rfl; (first | decide | omega); (omega); (first | exact wr64 (by omega) (by omega) rfl | exact wru64 (by omega) (by omega) rfl))
        | ((with_reducible apply Qv.remP); exact rfl; exact rfl; (first | decide | omega); omega)
        | ((with_reducible apply Qv.rem); exact rfl; exact rfl; (first | decide | omega); exact rfl)
        | ((with_reducible apply Qv.quo); exact rfl; exact rfl; (first | decide | omega); (first | exact wr64 (by omega) (by omega) (by (try simp only [Int.reduceAdd, Int.reduceSub, Int.reduceMul]); exact rfl) | exact wru64 (by omega) (by omega) (by (try simp only [Int.reduceAdd, Int.reduceSub, Int.reduceMul]); exact rfl) | exact rfl))
        | ((with_reducible apply Qv.shl); exact rfl; exact rfl; (first | decide | omega); (first | (first | exact wr64 (by omega) (by omega) (by (try simp only [Int.reduceAdd, Int.reduceSub, Int.reduceMul]); exact rfl) | exact wru64 (by omega) (by omega) (by (try simp only [Int.reduceAdd, Int.reduceSub, Int.reduceMul]); exact rfl) | exact rfl) | exact rfl))
        | ((with_reducible apply Qv.shr); exact rfl; exact rfl; (first | decide | omega); exact rfl)
        | ((with_reducible apply Qv.lenS); exact rfl)
        | ((with_reducible apply Qv.lenStr); exact rfl)
        | ((with_reducible apply Qv.capS); exact rfl)
        | ((with_reducible apply Qv.max); exact rfl; exact rfl)
        | ((with_reducible apply Qv.min); exact rfl; exact rfl))))
      | ((with_reducible apply JI.q1); (focus (intro cl h; cases h)); exact rfl; (focus (first
        | ((with_reducible apply Qr.load1); exact rfl; (repeat (first | with_reducible exact In.here | with_reducible apply In.there)); exact rfl)
        | ((with_reducible apply Qr.loadN); exact rfl; (repeat (first | with_reducible exact In.here | with_reducible apply In.there)); (focus ((try simp only [nl, Nat.reduceAdd, Nat.reduceMul, Int.reduceToNat]); try exact rfl)); (focus (first | (simp only [nl, Nat.reduceAdd, Nat.reduceMul, Int.reduceToNat]; done) | exact rfl)))
        | ((with_reducible apply Qr.row1); exact rfl; (repeat (first | with_reducible exact In.here | with_reducible apply In.there)); exact rfl)
        | ((with_reducible apply Qr.rowN); exact rfl; (repeat (first | with_reducible exact In.here | with_reducible apply In.there)); (focus ((try simp only [nl, Nat.reduceAdd, Nat.reduceMul, Int.reduceToNat]); try exact rfl)); exact rfl)
        | ((with_reducible apply Qr.lenRow); exact rfl; (repeat (first | with_reducible exact In.here | with_reducible apply In.there))))))
      | ((with_reducible apply JI.store1); exact rfl; exact rfl; exact rfl; (repeat (first | with_reducible exact Upd.here | with_reducible apply Upd.there)); (focus ((try simp only [nl, Nat.reduceAdd, Nat.reduceMul, Int.reduceToNat]); try exact rfl)); (first | decide | (simp only [nl, Nat.reduceAdd, Nat.reduceMul, Int.reduceToNat]; omega)))
      | ((with_reducible apply JI.call); exact rfl; focus (first
        | fail))
      | ((with_reducible apply JI.cond); exact rfl)
      | ((with_reducible apply Back.J.retM); exact rfl; exact rfl; (repeat (first | (with_reducible exact Res.nil) | ((with_reducible apply Res.tmp); exact rfl) | ((with_reducible apply Res.cell1); exact rfl; (repeat (first | with_reducible exact In.here | with_reducible apply In.there)); exact rfl) | ((with_reducible apply Res.cellN); exact rfl; (repeat (first | with_reducible exact In.here | with_reducible apply In.there)); (focus ((try simp only [nl, Nat.reduceAdd, Nat.reduceMul, Int.reduceToNat]); try exact rfl)); (focus (first | (simp only [nl, Nat.reduceAdd, Nat.reduceMul, Int.reduceToNat]; done) | exact rfl))))); exact rfl)
      | ((with_reducible apply Back.J.retD); exact rfl; exact rfl; (repeat (first | (with_reducible exact Res.nil) | ((with_reducible apply Res.tmp); exact rfl) | ((with_reducible apply Res.cell1); exact rfl; (repeat (first | with_reducible exact In.here | with_reducible apply In.there)); exact rfl) | ((with_reducible apply Res.cellN); exact rfl; (repeat (first | with_reducible exact In.here | with_reducible apply In.there)); (focus ((try simp only [nl, Nat.reduceAdd, Nat.reduceMul, Int.reduceToNat]); try exact rfl)); (focus (first | (simp only [nl, Nat.reduceAdd, Nat.reduceMul, Int.reduceToNat]; done) | exact rfl))))); exact rfl)
      | (with_reducible apply J.seq)
      | (with_reducible apply J.region_lit)
      | (with_reducible apply J.ops_nil)
      | (with_reducible apply J.app_cons)
      | (with_reducible apply J.app_nil)
      | (with_reducible apply J.then_)
      | (with_reducible apply J.blk_)
      | (with_reducible apply J.skip)
      | (with_reducible apply J.block)
      | ((with_reducible apply J.q0); exact rfl; focus (first
        | ((with_reducible apply Qv.sliceAll); exact rfl)
        | ((with_reducible apply Qv.pure); exact rfl)
        | ((with_reducible apply Qv.fieldAddr); exact rfl; (focus ((try simp only [nl, Nat.reduceAdd, Nat.reduceMul, Int.reduceToNat]); try exact rfl)))
        | ((with_reducible first | apply Qv.indexArr | apply Qv.indexBlk | apply Qv.indexN); exact rfl; exact rfl; (first | decide | omega | (constructor <;> omega)); (focus ((try simp only [nl, Nat.reduceAdd, Nat.reduceMul, Int.reduceToNat]); try exact rfl)))
        | ((with_reducible apply Qv.field1); exact rfl; exact rfl)
        | ((with_reducible apply Qv.fieldN); exact rfl; (focus ((try simp only [nl, Nat.reduceAdd, Nat.reduceMul, Int.reduceToNat]); try exact rfl)))
        | ((with_reducible apply Qv.index1); exact rfl; exact rfl; (first | decide | omega | (constructor <;> omega)); exact rfl)
        | ((with_reducible first | apply Qv.add | apply Qv.sub | apply Qv.mul); exact rfl; exact rfl; (first | exact wr64 (by omega) (by omega) (by (try simp only [Int.reduceAdd, Int.reduceSub, Int.reduceMul]); exact rfl) | exact wru64 (by omega) (by omega) (by (try simp only [Int.reduceAdd, Int.reduceSub, Int.reduceMul]); exact rfl) | exact rfl))
        | ((with_reducible apply Qv.conv); exact rfl; (first | exact wr64 (by omega) (by omega) (by (try simp only [Int.reduceAdd, Int.reduceSub, Int.reduceMul]); exact rfl) | exact wru64 (by omega) (by omega) (by (try simp only [Int.reduceAdd, Int.reduceSub, Int.reduceMul]); exact rfl) | exact rfl))
        | ((with_reducible first | apply Qv.eqlB | apply Qv.neqB); exact rfl; exact rfl)
        | ((with_reducible first | apply Qv.buildA | apply Qv.buildS); exact rfl; (simp only [bfill, nl, Nat.reduceAdd, Nat.reduceMul, Int.reduceToNat, List.getElem?_cons_zero, List.getElem?_cons_succ, Nat.reduceLeDiff, Nat.le_refl, and_self, if_true, eq_self]; exact rfl))
        | ((with_reducible apply Qv.quoP); exact rfl; exact rfl; (first | decide | omega); (omega); (first | exact wr64 (by omega) (by omega) rfl | exact wru64 (by omega) (by omega) rfl))
        | ((with_reducible apply Qv.remP); exact rfl; exact rfl; (first | decide | omega); omega)
        | ((with_reducible apply Qv.rem); exact rfl; exact rfl; (first | decide | omega); exact rfl)
        | ((with_reducible apply Qv.quo); exact rfl; exact rfl; (first | decide | omega); (first | exact wr64 (by omega) (by omega) (by (try simp only [Int.reduceAdd, Int.reduceSub, Int.reduceMul]); exact rfl) | exact wru64 (by omega) (by omega) (by (try simp only [Int.reduceAdd, Int.reduceSub, Int.reduceMul]); exact rfl) | exact rfl))
        | ((with_reducible apply Qv.shl); exact rfl; exact rfl; (first | decide | omega); (first | (first | exact wr64 (by omega) (by omega) (by (try simp only [Int.reduceAdd, Int.reduceSub, Int.reduceMul]); exact rfl) | exact wru64 (by omega) (by omega) (by (try simp only [Int.reduceAdd, Int.reduceSub, Int.reduceMul]); exact rfl) | exact rfl) | exact rfl))
        | ((with_reducible apply Qv.shr); exact rfl; exact rfl; (first | decide | omega); exact rfl)
        | ((with_reducible apply Qv.lenS); exact rfl)
        | ((with_reducible apply Qv.lenStr); exact rfl)
        | ((with_reducible apply Qv.capS); exact rfl)
        | ((with_reducible apply Qv.max); exact rfl; exact rfl)
        | ((with_reducible apply Qv.min); exact rfl; exact rfl)))
      | ((with_reducible apply J.q1); exact rfl; focus (first
        | ((with_reducible apply Qr.load1); exact rfl; (repeat (first | with_reducible exact In.here | with_reducible apply In.there)); exact rfl)
        | ((with_reducible apply Qr.loadN); exact rfl; (repeat (first | with_reducible exact In.here | with_reducible apply In.there)); (focus ((try simp only [nl, Nat.reduceAdd, Nat.reduceMul, Int.reduceToNat]); try exact rfl)); (focus (first | (simp only [nl, Nat.reduceAdd, Nat.reduceMul, Int.reduceToNat]; done) | exact rfl)))
        | ((with_reducible apply Qr.row1); exact rfl; (repeat (first | with_reducible exact In.here | with_reducible apply In.there)); exact rfl)
        | ((with_reducible apply Qr.rowN); exact rfl; (repeat (first | with_reducible exact In.here | with_reducible apply In.there)); (focus ((try simp only [nl, Nat.reduceAdd, Nat.reduceMul, Int.reduceToNat]); try exact rfl)); exact rfl)
        | ((with_reducible apply Qr.lenRow); exact rfl; (repeat (first | with_reducible exact In.here | with_reducible apply In.there)))))
      | ((with_reducible apply J.guard_on); exact rfl; exact rfl)
      | ((with_reducible apply J.guard_off); exact rfl; exact rfl; exact rfl; exact rfl)
      | ((with_reducible apply J.guard_off_none); exact rfl; exact rfl; exact rfl)
      | ((with_reducible apply J.gsplit); exact rfl; exact rfl)
      | ((with_reducible apply J.list); focus (first
        | ((with_reducible apply J.backs); exact rfl; exact rfl; intro _)
        | ((with_reducible apply J.buildSlice); exact rfl; exact rfl; exact rfl; exact rfl; exact rfl; (simp only [bfill, rep, List.replicate_succ, List.replicate_zero, List.flatten_cons, List.flatten_nil, nl, Nat.reduceAdd, Nat.reduceMul, Int.reduceToNat]; exact rfl); intro _)
        | ((with_reducible apply J.buildSlice0); exact rfl; intro _)
        | ((with_reducible apply J.append); exact rfl; exact rfl; (repeat (first | with_reducible exact Out.here | with_reducible apply Out.there)); exact rfl; (repeat (first | with_reducible exact In.here | with_reducible apply In.there)); (focus ((try simp only [nl, Nat.reduceAdd, Nat.reduceMul, Int.reduceToNat]); try exact rfl)); exact rfl; exact rfl; exact rfl; exact rfl; exact rfl; (first | decide | (simp only [maxLen]; omega) | omega); (first | decide | (simp only [maxLen]; omega) | omega); intro _)
        | ((with_reducible apply J.appendNil); exact rfl; exact rfl; exact rfl; (repeat (first | with_reducible exact In.here | with_reducible apply In.there)); (focus ((try simp only [nl, Nat.reduceAdd, Nat.reduceMul, Int.reduceToNat]); try exact rfl)); exact rfl; exact rfl; exact rfl; exact rfl; exact rfl; (first | decide | (simp only [maxLen]; omega) | omega); (first | decide | (simp only [maxLen]; omega) | omega); intro _)
        | ((with_reducible apply J.boxN); exact rfl; exact rfl; intro _)
        | ((with_reducible apply J.box1); exact rfl; exact rfl; exact rfl; intro _)
        | ((with_reducible apply J.alloc); exact rfl; intro _)
        | ((with_reducible apply J.storeN); exact rfl; exact rfl; (repeat (first | with_reducible exact Upd.here | with_reducible apply Upd.there)); (focus ((try simp only [nl, Nat.reduceAdd, Nat.reduceMul, Int.reduceToNat]); try exact rfl)); (focus (first | (simp only [nl, Nat.reduceAdd, Nat.reduceMul, Int.reduceToNat]; done) | exact rfl)); (focus (first | (simp only [nl, Nat.reduceAdd, Nat.reduceMul, Int.reduceToNat]; done) | (simp only [nl, Nat.reduceAdd, Nat.reduceMul, Int.reduceToNat]; omega) | decide)); (first | (with_reducible exact wvs_ones _ _) | ((with_reducible apply tab_ones); intro _; rfl) | exact rfl))
        | ((with_reducible apply J.store1); exact rfl; exact rfl; exact rfl; (repeat (first | with_reducible exact Upd.here | with_reducible apply Upd.there)); (focus ((try simp only [nl, Nat.reduceAdd, Nat.reduceMul, Int.reduceToNat]); try exact rfl)); (first | decide | (simp only [nl, Nat.reduceAdd, Nat.reduceMul, Int.reduceToNat]; omega)))))
      | ((with_reducible apply J.cond_true); exact rfl)
      | ((with_reducible apply J.cond_false); exact rfl)
      | ((with_reducible apply J.cond); exact rfl)
      | (intro h; exfalso; (first | (simp at h; done) | (simp at h; omega)))
      | (intro h; (try simp only [decide_eq_true_eq, decide_eq_false_iff_not, beq_iff_eq, beq_eq_false_iff_ne, Bool.not_eq_true', Bool.not_eq_false', bne_iff_ne, bne_eq_false_iff_eq, ne_eq, ge_iff_le, gt_iff_lt] at h))
      | (with_reducible apply J.cret)
      | ((with_reducible apply J.ret); exact rfl; exact rfl; (repeat (first | (with_reducible exact Res.nil) | ((with_reducible apply Res.tmp); exact rfl) | ((with_reducible apply Res.cell1); exact rfl; (repeat (first | with_reducible exact In.here | with_reducible apply In.there)); exact rfl) | ((with_reducible apply Res.cellN); exact rfl; (repeat (first | with_reducible exact In.here | with_reducible apply In.there)); (focus ((try simp only [nl, Nat.reduceAdd, Nat.reduceMul, Int.reduceToNat]); try exact rfl)); (focus (first | (simp only [nl, Nat.reduceAdd, Nat.reduceMul, Int.reduceToNat]; done) | exact rfl))))); exact rfl)
      | ((with_reducible apply J.ret_normal); exact rfl; exact rfl; (repeat (first | (with_reducible exact Res.nil) | ((with_reducible apply Res.tmp); exact rfl) | ((with_reducible apply Res.cell1); exact rfl; (repeat (first | with_reducible exact In.here | with_reducible apply In.there)); exact rfl) | ((with_reducible apply Res.cellN); exact rfl; (repeat (first | with_reducible exact In.here | with_reducible apply In.there)); (focus ((try simp only [nl, Nat.reduceAdd, Nat.reduceMul, Int.reduceToNat]); try exact rfl)); (focus (first | (simp only [nl, Nat.reduceAdd, Nat.reduceMul, Int.reduceToNat]; done) | exact rfl))))); exact rfl)
      | (with_reducible apply J.gave')
      | ((with_reducible apply J.kept'); rotate_left; (repeat (first | (with_reducible exact Outs.nil) | ((with_reducible apply Outs.cons); (repeat (first | with_reducible exact Out.here | with_reducible apply Out.there))))))
      | (with_reducible apply J.exit)
      | (with_reducible apply J.then_ret)
      | (with_reducible apply J.then_exit)
      | (with_reducible apply J.then_panic)
      | (with_reducible apply J.blk_ret)
      | (with_reducible apply J.blk_panic)
      | (with_reducible apply J.blk_exit)
      | ((with_reducible apply J.blk_past); exact rfl)
    all_goals (first | (simp only [retv]; unfold wcmp; rw [if_neg (by omega), if_neg (by omega)]; done) | (trace_state; fail))
  case hstop =>
    intro D
    repeat' first
      | (with_reducible apply JI.seq)
      | (with_reducible apply JI.region_lit)
      | (with_reducible apply JI.nil)
      | (with_reducible apply JI.skip)
      | (with_reducible apply JI.cret)
      | (with_reducible apply JI.block)
      | (with_reducible apply J.np_ret)
      | ((with_reducible apply JI.q0); (focus (intro cl h; cases h)); exact rfl; (focus (first
        | ((with_reducible apply Qv.sliceAll); exact rfl)
        | ((with_reducible apply Qv.pure); exact rfl)
        | ((with_reducible apply Qv.fieldAddr); exact rfl; (focus ((try simp only [nl, Nat.reduceAdd, Nat.reduceMul, Int.reduceToNat]); try exact rfl)))
        | ((with_reducible first | apply Qv.indexArr | apply Qv.indexBlk | apply Qv.indexN); exact rfl; exact rfl; (first | decide | omega | (constructor <;> omega)); (focus ((try simp only [nl, Nat.reduceAdd, Nat.reduceMul, Int.reduceToNat]); try exact rfl)))
        | ((with_reducible apply Qv.field1); exact rfl; exact rfl)
        | ((with_reducible apply Qv.fieldN); exact rfl; (focus ((try simp only [nl, Nat.reduceAdd, Nat.reduceMul, Int.reduceToNat]); try exact rfl)))
        | ((with_reducible apply Qv.index1); exact rfl; exact rfl; (first | decide | omega | (constructor <;> omega)); exact rfl)
        | ((with_reducible first | apply Qv.add | apply Qv.sub | apply Qv.mul); exact rfl; exact rfl; (first | exact wr64 (by omega) (by omega) (by (try simp only [Int.reduceAdd, Int.reduceSub, Int.reduceMul]); exact rfl) | exact wru64 (by omega) (by omega) (by (try simp only [Int.reduceAdd, Int.reduceSub, Int.reduceMul]); exact rfl) | exact rfl))
        | ((with_reducible apply Qv.conv); exact rfl; (first | exact wr64 (by omega) (by omega) (by (try simp only [Int.reduceAdd, Int.reduceSub, Int.reduceMul]); exact rfl) | exact wru64 (by omega) (by omega) (by (try simp only [Int.reduceAdd, Int.reduceSub, Int.reduceMul]); exact rfl) | exact rfl))
        | ((with_reducible first | apply Qv.eqlB | apply Qv.neqB); exact rfl; exact rfl)
        | ((with_reducible first | apply Qv.buildA | apply Qv.buildS); exact rfl; (simp only [bfill, nl, Nat.reduceAdd, Nat.reduceMul, Int.reduceToNat, List.getElem?_cons_zero, List.getElem?_cons_succ, Nat.reduceLeDiff, Nat.le_refl, and_self, if_true, eq_self]; exact rfl))
        | ((with_reducible apply Qv.quoP); exact rfl; exact rfl; (first | decide | omega); (omega); (first | exact wr64 (by omega) (by omega) rfl | exact wru64 (by omega) (by omega) rfl))
        | ((with_reducible apply Qv.remP); exact rfl; exact rfl; (first | decide | omega); omega)
        | ((with_reducible apply Qv.rem); exact rfl; exact rfl; (first | decide | omega); exact rfl)
        | ((with_reducible apply Qv.quo); exact rfl; exact rfl; (first | decide | omega); (first | exact wr64 (by omega) (by omega) (by (try simp only [Int.reduceAdd, Int.reduceSub, Int.reduceMul]); exact rfl) | exact wru64 (by omega) (by omega) (by (try simp only [Int.reduceAdd, Int.reduceSub, Int.reduceMul]); exact rfl) | exact rfl))
        | ((with_reducible apply Qv.shl); exact rfl; exact rfl; (first | decide | omega); (first | (first | exact wr64 (by omega) (by omega) (by (try simp only [Int.reduceAdd, Int.reduceSub, Int.reduceMul]); exact rfl) | exact wru64 (by omega) (by omega) (by (try simp only [Int.reduceAdd, Int.reduceSub, Int.reduceMul]); exact rfl) | exact rfl) | exact rfl))
        | ((with_reducible apply Qv.shr); exact rfl; exact rfl; (first | decide | omega); exact rfl)
        | ((with_reducible apply Qv.lenS); exact rfl)
        | ((with_reducible apply Qv.lenStr); exact rfl)
        | ((with_reducible apply Qv.capS); exact rfl)
        | ((with_reducible apply Qv.max); exact rfl; exact rfl)
        | ((with_reducible apply Qv.min); exact rfl; exact rfl))))
      | ((with_reducible apply JI.q1); (focus (intro cl h; cases h)); exact rfl; (focus (first
        | ((with_reducible apply Qr.load1); exact rfl; (repeat (first | with_reducible exact In.here | with_reducible apply In.there)); exact rfl)
        | ((with_reducible apply Qr.loadN); exact rfl; (repeat (first | with_reducible exact In.here | with_reducible apply In.there)); (focus ((try simp only [nl, Nat.reduceAdd, Nat.reduceMul, Int.reduceToNat]); try exact rfl)); (focus (first | (simp only [nl, Nat.reduceAdd, Nat.reduceMul, Int.reduceToNat]; done) | exact rfl)))
        | ((with_reducible apply Qr.row1); exact rfl; (repeat (first | with_reducible exact In.here | with_reducible apply In.there)); exact rfl)
        | ((with_reducible apply Qr.rowN); exact rfl; (repeat (first | with_reducible exact In.here | with_reducible apply In.there)); (focus ((try simp only [nl, Nat.reduceAdd, Nat.reduceMul, Int.reduceToNat]); try exact rfl)); exact rfl)
        | ((with_reducible apply Qr.lenRow); exact rfl; (repeat (first | with_reducible exact In.here | with_reducible apply In.there))))))
      | ((with_reducible apply JI.store1); exact rfl; exact rfl; exact rfl; (repeat (first | with_reducible exact Upd.here | with_reducible apply Upd.there)); (focus ((try simp only [nl, Nat.reduceAdd, Nat.reduceMul, Int.reduceToNat]); try exact rfl)); (first | decide | (simp only [nl, Nat.reduceAdd, Nat.reduceMul, Int.reduceToNat]; omega)))
      | ((with_reducible apply JI.call); exact rfl; focus (first
        | fail))
      | ((with_reducible apply JI.cond); exact rfl)
      | ((with_reducible apply Back.J.retM); exact rfl; exact rfl; (repeat (first | (with_reducible exact Res.nil) | ((with_reducible apply Res.tmp); exact rfl) | ((with_reducible apply Res.cell1); exact rfl; (repeat (first | with_reducible exact In.here | with_reducible apply In.there)); exact rfl) | ((with_reducible apply Res.cellN); exact rfl; (repeat (first | with_reducible exact In.here | with_reducible apply In.there)); (focus ((try simp only [nl, Nat.reduceAdd, Nat.reduceMul, Int.reduceToNat]); try exact rfl)); (focus (first | (simp only [nl, Nat.reduceAdd, Nat.reduceMul, Int.reduceToNat]; done) | exact rfl))))); exact rfl)
      | ((with_reducible apply Back.J.retD); exact rfl; exact rfl; (repeat (first | (with_reducible exact Res.nil) | ((with_reducible apply Res.tmp); exact rfl) | ((with_reducible apply Res.cell1); exact rfl; (repeat (first | with_reducible exact In.here | with_reducible apply In.there)); exact rfl) | ((with_reducible apply Res.cellN); exact rfl; (repeat (first | with_reducible exact In.here | with_reducible apply In.there)); (focus ((try simp only [nl, Nat.reduceAdd, Nat.reduceMul, Int.reduceToNat]); try exact rfl)); (focus (first | (simp only [nl, Nat.reduceAdd, Nat.reduceMul, Int.reduceToNat]; done) | exact rfl))))); exact rfl)
      | (with_reducible apply J.seq)
      | (with_reducible apply J.region_lit)
      | (with_reducible apply J.ops_nil)
      | (with_reducible apply J.app_cons)
      | (with_reducible apply J.app_nil)
      | (with_reducible apply J.then_)
      | (with_reducible apply J.blk_)
      | (with_reducible apply J.skip)
      | (with_reducible apply J.block)
      | ((with_reducible apply J.q0); exact rfl; focus (first
        | ((with_reducible apply Qv.sliceAll); exact rfl)
        | ((with_reducible apply Qv.pure); exact rfl)
        | ((with_reducible apply Qv.fieldAddr); exact rfl; (focus ((try simp only [nl, Nat.reduceAdd, Nat.reduceMul, Int.reduceToNat]); try exact rfl)))
        | ((with_reducible first | apply Qv.indexArr | apply Qv.indexBlk | apply Qv.indexN); exact rfl; exact rfl; (first | decide | omega | (constructor <;> omega)); (focus ((try simp only [nl, Nat.reduceAdd, Nat.reduceMul, Int.reduceToNat]); try exact rfl)))
        | ((with_reducible apply Qv.field1); exact rfl; exact rfl)
        | ((with_reducible apply Qv.fieldN); exact rfl; (focus ((try simp only [nl, Nat.reduceAdd, Nat.reduceMul, Int.reduceToNat]); try exact rfl)))
        | ((with_reducible apply Qv.index1); exact rfl; exact rfl; (first | decide | omega | (constructor <;> omega)); exact rfl)
        | ((with_reducible first | apply Qv.add | apply Qv.sub | apply Qv.mul); exact rfl; exact rfl; (first | exact wr64 (by omega) (by omega) (by (try simp only [Int.reduceAdd, Int.reduceSub, Int.reduceMul]); exact rfl) | exact wru64 (by omega) (by omega) (by (try simp only [Int.reduceAdd, Int.reduceSub, Int.reduceMul]); exact rfl) | exact rfl))
        | ((with_reducible apply Qv.conv); exact rfl; (first | exact wr64 (by omega) (by omega) (by (try simp only [Int.reduceAdd, Int.reduceSub, Int.reduceMul]); exact rfl) | exact wru64 (by omega) (by omega) (by (try simp only [Int.reduceAdd, Int.reduceSub, Int.reduceMul]); exact rfl) | exact rfl))
        | ((with_reducible first | apply Qv.eqlB | apply Qv.neqB); exact rfl; exact rfl)
        | ((with_reducible first | apply Qv.buildA | apply Qv.buildS); exact rfl; (simp only [bfill, nl, Nat.reduceAdd, Nat.reduceMul, Int.reduceToNat, List.getElem?_cons_zero, List.getElem?_cons_succ, Nat.reduceLeDiff, Nat.le_refl, and_self, if_true, eq_self]; exact rfl))
        | ((with_reducible apply Qv.quoP); exact rfl; exact rfl; (first | decide | omega); (omega); (first | exact wr64 (by omega) (by omega) rfl | exact wru64 (by omega) (by omega) rfl))
        | ((with_reducible apply Qv.remP); exact rfl; exact rfl; (first | decide | omega); omega)
        | ((with_reducible apply Qv.rem); exact rfl; exact rfl; (first | decide | omega); exact rfl)
        | ((with_reducible apply Qv.quo); exact rfl; exact rfl; (first | decide | omega); (first | exact wr64 (by omega) (by omega) (by (try simp only [Int.reduceAdd, Int.reduceSub, Int.reduceMul]); exact rfl) | exact wru64 (by omega) (by omega) (by (try simp only [Int.reduceAdd, Int.reduceSub, Int.reduceMul]); exact rfl) | exact rfl))
        | ((with_reducible apply Qv.shl); exact rfl; exact rfl; (first | decide | omega); (first | (first | exact wr64 (by omega) (by omega) (by (try simp only [Int.reduceAdd, Int.reduceSub, Int.reduceMul]); exact rfl) | exact wru64 (by omega) (by omega) (by (try simp only [Int.reduceAdd, Int.reduceSub, Int.reduceMul]); exact rfl) | exact rfl) | exact rfl))
        | ((with_reducible apply Qv.shr); exact rfl; exact rfl; (first | decide | omega); exact rfl)
        | ((with_reducible apply Qv.lenS); exact rfl)
        | ((with_reducible apply Qv.lenStr); exact rfl)
        | ((with_reducible apply Qv.capS); exact rfl)
        | ((with_reducible apply Qv.max); exact rfl; exact rfl)
        | ((with_reducible apply Qv.min); exact rfl; exact rfl)))
      | ((with_reducible apply J.q1); exact rfl; focus (first
        | ((with_reducible apply Qr.load1); exact rfl; (repeat (first | with_reducible exact In.here | with_reducible apply In.there)); exact rfl)
        | ((with_reducible apply Qr.loadN); exact rfl; (repeat (first | with_reducible exact In.here | with_reducible apply In.there)); (focus ((try simp only [nl, Nat.reduceAdd, Nat.reduceMul, Int.reduceToNat]); try exact rfl)); (focus (first | (simp only [nl, Nat.reduceAdd, Nat.reduceMul, Int.reduceToNat]; done) | exact rfl)))
        | ((with_reducible apply Qr.row1); exact rfl; (repeat (first | with_reducible exact In.here | with_reducible apply In.there)); exact rfl)
        | ((with_reducible apply Qr.rowN); exact rfl; (repeat (first | with_reducible exact In.here | with_reducible apply In.there)); (focus ((try simp only [nl, Nat.reduceAdd, Nat.reduceMul, Int.reduceToNat]); try exact rfl)); exact rfl)
        | ((with_reducible apply Qr.lenRow); exact rfl; (repeat (first | with_reducible exact In.here | with_reducible apply In.there)))))
      | ((with_reducible apply J.guard_on); exact rfl; exact rfl)
      | ((with_reducible apply J.guard_off); exact rfl; exact rfl; exact rfl; exact rfl)
      | ((with_reducible apply J.guard_off_none); exact rfl; exact rfl; exact rfl)
      | ((with_reducible apply J.gsplit); exact rfl; exact rfl)
      | ((with_reducible apply J.list); focus (first
        | ((with_reducible apply J.backs); exact rfl; exact rfl; intro _)
        | ((with_reducible apply J.buildSlice); exact rfl; exact rfl; exact rfl; exact rfl; exact rfl; (simp only [bfill, rep, List.replicate_succ, List.replicate_zero, List.flatten_cons, List.flatten_nil, nl, Nat.reduceAdd, Nat.reduceMul, Int.reduceToNat]; exact rfl); intro _)
        | ((with_reducible apply J.buildSlice0); exact rfl; intro _)
        | ((with_reducible apply J.append); exact rfl; exact rfl; (repeat (first | with_reducible exact Out.here | with_reducible apply Out.there)); exact rfl; (repeat (first | with_reducible exact In.here | with_reducible apply In.there)); (focus ((try simp only [nl, Nat.reduceAdd, Nat.reduceMul, Int.reduceToNat]); try exact rfl)); exact rfl; exact rfl; exact rfl; exact rfl; exact rfl; (first | decide | (simp only [maxLen]; omega) | omega); (first | decide | (simp only [maxLen]; omega) | omega); intro _)
        | ((with_reducible apply J.appendNil); exact rfl; exact rfl; exact rfl; (repeat (first | with_reducible exact In.here | with_reducible apply In.there)); (focus ((try simp only [nl, Nat.reduceAdd, Nat.reduceMul, Int.reduceToNat]); try exact rfl)); exact rfl; exact rfl; exact rfl; exact rfl; exact rfl; (first | decide | (simp only [maxLen]; omega) | omega); (first | decide | (simp only [maxLen]; omega) | omega); intro _)
        | ((with_reducible apply J.boxN); exact rfl; exact rfl; intro _)
        | ((with_reducible apply J.box1); exact rfl; exact rfl; exact rfl; intro _)
        | ((with_reducible apply J.alloc); exact rfl; intro _)
        | ((with_reducible apply J.storeN); exact rfl; exact rfl; (repeat (first | with_reducible exact Upd.here | with_reducible apply Upd.there)); (focus ((try simp only [nl, Nat.reduceAdd, Nat.reduceMul, Int.reduceToNat]); try exact rfl)); (focus (first | (simp only [nl, Nat.reduceAdd, Nat.reduceMul, Int.reduceToNat]; done) | exact rfl)); (focus (first | (simp only [nl, Nat.reduceAdd, Nat.reduceMul, Int.reduceToNat]; done) | (simp only [nl, Nat.reduceAdd, Nat.reduceMul, Int.reduceToNat]; omega) | decide)); (first | (with_reducible exact wvs_ones _ _) | ((with_reducible apply tab_ones); intro _; rfl) | exact rfl))
        | ((with_reducible apply J.store1); exact rfl; exact rfl; exact rfl; (repeat (first | with_reducible exact Upd.here | with_reducible apply Upd.there)); (focus ((try simp only [nl, Nat.reduceAdd, Nat.reduceMul, Int.reduceToNat]); try exact rfl)); (first | decide | (simp only [nl, Nat.reduceAdd, Nat.reduceMul, Int.reduceToNat]; omega)))))
      | ((with_reducible apply J.cond_true); exact rfl)
      | ((with_reducible apply J.cond_false); exact rfl)
      | ((with_reducible apply J.cond); exact rfl)
      | (intro h; exfalso; (first | (simp at h; done) | (simp at h; omega)))
      | (intro h; (try simp only [decide_eq_true_eq, decide_eq_false_iff_not, beq_iff_eq, beq_eq_false_iff_ne, Bool.not_eq_true', Bool.not_eq_false', bne_iff_ne, bne_eq_false_iff_eq, ne_eq, ge_iff_le, gt_iff_lt] at h))
      | (with_reducible apply J.cret)
      | ((with_reducible apply J.ret); exact rfl; exact rfl; (repeat (first | (with_reducible exact Res.nil) | ((with_reducible apply Res.tmp); exact rfl) | ((with_reducible apply Res.cell1); exact rfl; (repeat (first | with_reducible exact In.here | with_reducible apply In.there)); exact rfl) | ((with_reducible apply Res.cellN); exact rfl; (repeat (first | with_reducible exact In.here | with_reducible apply In.there)); (focus ((try simp only [nl, Nat.reduceAdd, Nat.reduceMul, Int.reduceToNat]); try exact rfl)); (focus (first | (simp only [nl, Nat.reduceAdd, Nat.reduceMul, Int.reduceToNat]; done) | exact rfl))))); exact rfl)
      | ((with_reducible apply J.ret_normal); exact rfl; exact rfl; (repeat (first | (with_reducible exact Res.nil) | ((with_reducible apply Res.tmp); exact rfl) | ((with_reducible apply Res.cell1); exact rfl; (repeat (first | with_reducible exact In.here | with_reducible apply In.there)); exact rfl) | ((with_reducible apply Res.cellN); exact rfl; (repeat (first | with_reducible exact In.here | with_reducible apply In.there)); (focus ((try simp only [nl, Nat.reduceAdd, Nat.reduceMul, Int.reduceToNat]); try exact rfl)); (focus (first | (simp only [nl, Nat.reduceAdd, Nat.reduceMul, Int.reduceToNat]; done) | exact rfl))))); exact rfl)
      | (with_reducible apply J.gave')
      | ((with_reducible apply J.kept'); rotate_left; (repeat (first | (with_reducible exact Outs.nil) | ((with_reducible apply Outs.cons); (repeat (first | with_reducible exact Out.here | with_reducible apply Out.there))))))
      | (with_reducible apply J.exit)
      | (with_reducible apply J.then_ret)
      | (with_reducible apply J.then_exit)
      | (with_reducible apply J.then_panic)
      | (with_reducible apply J.blk_ret)
      | (with_reducible apply J.blk_panic)
      | (with_reducible apply J.blk_exit)
      | ((with_reducible apply J.blk_past); exact rfl)
    all_goals (first | rfl | (trace_state; fail))
end Go.Proofs.Ytfcaeifpclpnoaa.Cmp
namespace Go.Proofs.Ytfcaeifpclpnoaa.Cli
open Go Go.RowKit Eng
set_option linter.unusedVariables false
set_option maxRecDepth 100000
set_option linter.unusedSimpArgs false
open Sha Iter Hash Bytes Hsum Ots Rsum Rovr Mrt Mrr Wide
set_option maxHeartbeats 1000000
/-- A user's parts. -/
def cliC (u d : Int) (rt : List UInt8) (r k : Nat) (ds : Value) (dn : Bool) : List Value := [.int .i64 u, .int .i64 d, str rt, .slice none 0 0, .pointer (some ⟨r, 0, none⟩), .pointer (some ⟨k, 0, none⟩), ds, .bool dn, .bool true, .slice none 0 0, .slice none 0 0, .slice none 0 0]
/-- A room's parts. -/
def roomC (op : Value) : List Value := [.slice none 0 0, op, .bool true]
def diskC (room : Int) : List Value := [.slice none 0 0, .int .i64 0, .int .i64 room, .bool true]
def seedF (u : Nat) : List UInt8 := [117, 115, 101, 114] ++ [UInt8.ofNat u]
def dlF (d : Int) : Int := imin (imax d 1) 4
def rmF (n : Int) : Int := imin (imax n 0) 65536
/-- A new one. -/
def NewC (u : Nat) (d room : Int) : Ending → List Asrt → Prop := fun e H => ∃ p : Nat × Nat × Nat, e = .returned (.tuple #[.pointer (some ⟨p.1, 0, none⟩), .int .i64 0]) ∧ H = [blk p.1 (cliC u (dlF d) (rootF (seedF u)) p.2.1 p.2.2 (.slice none 0 0) false) 76, blk p.2.1 (roomC (.slice none 0 0)) 116, blk p.2.2 (diskC (rmF room)) 118]
section
variable {P : Program} {c : Cx} {l : TL} {H : List Asrt} {Q : Exit → Act → World → Prop} {X : Act → World → Prop}
variable {ty : TypeId} {pos : String} {af : Array Edge} {d : Nat}
theorem J.newC {f : Nat} [i : Eng.Enters P f] {xs : List Operand} {ts : Array TypeId} {vs : List Value} {u : Nat} {dl room : Int} {rt : List UInt8} (hS : ∀ w, CSpec P f vs [] w (NewC u dl room)) (hrt : rootF (seedF u) = rt) (hd : Nat.blt d c.n = true) (hx : evs l xs = some vs)
    (K : ∀ p r k : Nat, J c ((d, .tuple #[.pointer (some ⟨p, 0, none⟩), .int .i64 0]) :: l) (blk p (cliC u (dlF dl) rt r k (.slice none 0 0) false) 76 :: blk r (roomC (.slice none 0 0)) 116 :: blk k (diskC (rmF room)) 118 :: H) X) : J c l H (OW P Q ⟨some d, .call ⟨.value (.func f), xs.toArray, ts⟩, ty, pos, af, none⟩ X) :=
  J.callS hd hx .nil (fun w s => hS w) (fun v' H3 ⟨p, h1, h2⟩ => by
    cases h1; subst h2 hrt
    exact K p.1 p.2.1 p.2.2) (fun ch H3 ⟨b, h1, _⟩ => by cases h1) (fun H3 ⟨b, h1, _⟩ => by cases h1)
theorem J.endNC {u : Nat} {d room : Int} {p r k : Nat} {R : List Asrt} (ho : Outs [blk p (cliC u (dlF d) (rootF (seedF u)) r k (.slice none 0 0) false) 76, blk r (roomC (.slice none 0 0)) 116, blk k (diskC (rmF room)) 118] H R) : J c l H (fun _ w => ∃ H3, NewC u d room (.returned (.tuple #[.pointer (some ⟨p, 0, none⟩), .int .i64 0])) H3 ∧ Sat c.w0 c.own H3 w) :=
  J.post (R := NewC u d room) ⟨(p, r, k), rfl, rfl⟩ ho
end
theorem delay_ (d : Int) (w : World) (hw : True) : CSpec Try.prog 26 [.int .i64 d] [] w (Gives (.int .i64 (dlF d))) := by
  refine spec_own0 Try.func26 rfl Try.ntmps26 rfl (l0 := [(0, .int .i64 d)]) rfl ?_
  repeat' first
    | refine J.one ?_
    | refine J.loudS ?_
    | (refine J.loudQ ?_; intro _ _)
    | (refine J.loudB ?_; intro _)
    | (with_reducible apply J.list)
    | ((with_reducible apply J.gsplit); exact rfl; exact rfl)
    | ((with_reducible first | apply J.cond | apply JC.cond); exact rfl)
    | (intro h; exfalso; (first | (simp at h; done) | (simp at h; omega)))
    | (intro h; (try simp only [decide_eq_true_eq, decide_eq_false_iff_not, beq_iff_eq, beq_eq_false_iff_ne, Bool.not_eq_true', Bool.not_eq_false', bne_iff_ne, bne_eq_false_iff_eq, ne_eq, ge_iff_le, gt_iff_lt] at h))
    | (with_reducible apply J.gave')
    | ((with_reducible apply J.kept'); rotate_left; (repeat (first | (with_reducible exact Outs.nil) | ((with_reducible apply Outs.cons); (repeat (first | with_reducible exact Out.here | with_reducible apply Out.there))))))
  all_goals (rfl)
theorem seed_ (u : Nat) (w : World) (hw : u < 15) : CSpec Try.prog 25 [.int .i64 (u : Int)] [] w (Gives (str (seedF u))) := by
  refine spec_own0 Try.func25 rfl Try.ntmps25 rfl (l0 := [(0, .int .i64 (u : Int))]) rfl ?_
  repeat' first
    | (refine J.qv ?_; (with_reducible apply exq); focus (first
      | ((with_reducible apply Qv.conv); exact rfl; exact wj (by omega))
      | ((with_reducible apply Qv.concat (s := [117, 115, 101, 114]) (t := [UInt8.ofNat u])); exact rfl; exact rfl; (simp only [List.length_cons, List.length_nil]; omega))))
    | (refine J.qr ?_; (with_reducible apply exq); focus (first
      | ((with_reducible apply Qr.toStr); exact rfl; (exact RH.b1 (x := UInt8.ofNat u) (by (repeat (first | with_reducible exact In.here | with_reducible apply In.there)))); rfl)))
    | refine J.one ?_
    | refine J.loudS ?_
    | (refine J.loudQ ?_; intro _ _)
    | (refine J.loudB ?_; intro _)
    | (with_reducible apply J.list)
    | ((with_reducible apply J.gsplit); exact rfl; exact rfl)
    | ((with_reducible first | apply J.cond | apply JC.cond); exact rfl)
    | (intro h; exfalso; fail)
    | (intro h; (try simp only [decide_eq_true_eq, decide_eq_false_iff_not, beq_iff_eq, beq_eq_false_iff_ne, Bool.not_eq_true', Bool.not_eq_false', bne_iff_ne, bne_eq_false_iff_eq, ne_eq, ge_iff_le, gt_iff_lt] at h))
    | (with_reducible apply J.gave')
    | ((with_reducible apply J.kept'); rotate_left; (repeat (first | (with_reducible exact Outs.nil) | ((with_reducible apply Outs.cons); (repeat (first | with_reducible exact Out.here | with_reducible apply Out.there))))))
  all_goals (rfl)
theorem clone0  (w : World) (hw : True) : CSpec Try.prog 28 [.slice none 0 0] [] w (Gives (.slice none 0 0)) := by
  refine spec_own0 Try.func28 rfl Try.ntmps28 rfl (l0 := [(0, .slice none 0 0)]) rfl ?_
  repeat' first
    | refine J.one ?_
    | refine J.loudS ?_
    | (refine J.loudQ ?_; intro _ _)
    | (refine J.loudB ?_; intro _)
    | (with_reducible apply J.list)
    | ((with_reducible apply J.gsplit); exact rfl; exact rfl)
    | ((with_reducible first | apply J.cond | apply JC.cond); exact rfl)
    | (intro h; exfalso; (simp at h; done))
    | (intro h; (try simp only [decide_eq_true_eq, decide_eq_false_iff_not, beq_iff_eq, beq_eq_false_iff_ne, Bool.not_eq_true', Bool.not_eq_false', bne_iff_ne, bne_eq_false_iff_eq, ne_eq, ge_iff_le, gt_iff_lt] at h))
    | (with_reducible apply J.gave')
    | ((with_reducible apply J.kept'); rotate_left; (repeat (first | (with_reducible exact Outs.nil) | ((with_reducible apply Outs.cons); (repeat (first | with_reducible exact Out.here | with_reducible apply Out.there))))))
  all_goals (rfl)
theorem room_  (w : World) (hw : True) : CSpec Try.prog 29 [.slice none 0 0] [] w (FreshP (fun p => [blk p (roomC (.slice none 0 0)) 116])) := by
  refine spec_own0 Try.func29 rfl Try.ntmps29 rfl (l0 := [(0, .slice none 0 0)]) rfl ?_
  repeat' first
    | (refine J.qv ?_; (with_reducible apply exq); focus (first
      | ((with_reducible apply Qv.buildS (T := 116)); exact rfl; (show _ = some (roomC (.slice none 0 0))); kernel_rfl)))
    | ((with_reducible apply J.givesR (clone0)); exact rfl; exact rfl; focus (exact RH.true_))
    | refine J.one ?_
    | refine J.loudS ?_
    | (refine J.loudQ ?_; intro _ _)
    | (refine J.loudB ?_; intro _)
    | (with_reducible apply J.list)
    | ((with_reducible apply J.gsplit); exact rfl; exact rfl)
    | ((with_reducible first | apply J.cond | apply JC.cond); exact rfl)
    | (intro h; exfalso; fail)
    | (intro h; (try simp only [decide_eq_true_eq, decide_eq_false_iff_not, beq_iff_eq, beq_eq_false_iff_ne, Bool.not_eq_true', Bool.not_eq_false', bne_iff_ne, bne_eq_false_iff_eq, ne_eq, ge_iff_le, gt_iff_lt] at h))
    | (with_reducible apply J.gave')
    | ((with_reducible apply J.kept'); rotate_left; (repeat (first | (with_reducible exact Outs.nil) | ((with_reducible apply Outs.cons); (repeat (first | with_reducible exact Out.here | with_reducible apply Out.there))))))
  all_goals ((rename_i p; exact J.post ⟨p, rfl, rfl⟩ (.cons .here .nil)))
theorem disk_ (n : Int) (w : World) (hw : True) : CSpec Try.prog 30 [.int .i64 n] [] w (FreshP (fun p => [blk p (diskC (rmF n)) 118])) := by
  refine spec_own0 Try.func30 rfl Try.ntmps30 rfl (l0 := [(0, .int .i64 n)]) rfl ?_
  repeat' first
    | (refine J.qv ?_; (with_reducible apply exq); focus (first
      | ((with_reducible apply Qv.buildS (T := 118)); exact rfl; (show _ = some (diskC (rmF n))); kernel_rfl)))
    | refine J.one ?_
    | refine J.loudS ?_
    | (refine J.loudQ ?_; intro _ _)
    | (refine J.loudB ?_; intro _)
    | (with_reducible apply J.list)
    | ((with_reducible apply J.gsplit); exact rfl; exact rfl)
    | ((with_reducible first | apply J.cond | apply JC.cond); exact rfl)
    | (intro h; exfalso; fail)
    | (intro h; (try simp only [decide_eq_true_eq, decide_eq_false_iff_not, beq_iff_eq, beq_eq_false_iff_ne, Bool.not_eq_true', Bool.not_eq_false', bne_iff_ne, bne_eq_false_iff_eq, ne_eq, ge_iff_le, gt_iff_lt] at h))
    | (with_reducible apply J.gave')
    | ((with_reducible apply J.kept'); rotate_left; (repeat (first | (with_reducible exact Outs.nil) | ((with_reducible apply Outs.cons); (repeat (first | with_reducible exact Out.here | with_reducible apply Out.there))))))
  all_goals ((rename_i p; exact J.post ⟨p, rfl, rfl⟩ (.cons .here .nil)))
theorem newX (i d n : Int) (hi : i < 0 ∨ 2 ≤ i) (w : World) (hw : True) : CSpec Try.prog 8 [.int .i64 i, .slice none 0 0, .int .i64 d, .int .i64 n] [] w (Gives (.tuple #[.pointer none, .int .i64 4])) := by
  refine spec_own0 Try.func8 rfl Try.ntmps8 rfl (l0 := [(0, .int .i64 i), (1, .slice none 0 0), (2, .int .i64 d), (3, .int .i64 n)]) rfl ?_
  repeat' first
    | fail
    | refine J.one ?_
    | refine J.loudS ?_
    | (refine J.loudQ ?_; intro _ _)
    | (refine J.loudB ?_; intro _)
    | (with_reducible apply J.list)
    | ((with_reducible apply J.gsplit); exact rfl; exact rfl)
    | ((with_reducible first | apply J.cond | apply JC.cond); exact rfl)
    | (intro h; exfalso; (first | (simp at h; done) | (simp at h; omega) | omega))
    | (intro h; (try simp only [decide_eq_true_eq, decide_eq_false_iff_not, beq_iff_eq, beq_eq_false_iff_ne, Bool.not_eq_true', Bool.not_eq_false', bne_iff_ne, bne_eq_false_iff_eq, ne_eq, ge_iff_le, gt_iff_lt] at h))
    | (with_reducible apply J.gave')
    | ((with_reducible apply J.kept'); rotate_left; (repeat (first | (with_reducible exact Outs.nil) | ((with_reducible apply Outs.cons); (repeat (first | with_reducible exact Out.here | with_reducible apply Out.there))))))
  all_goals (rfl)
theorem new_ (u : Nat) (d n : Int) (hu : u ≤ 1) (w : World) (hw : True) : CSpec Try.prog 8 [.int .i64 (u : Int), .slice none 0 0, .int .i64 d, .int .i64 n] [] w (NewC u d n) := by
  refine spec_own0 Try.func8 rfl Try.ntmps8 rfl (l0 := [(0, .int .i64 (u : Int)), (1, .slice none 0 0), (2, .int .i64 d), (3, .int .i64 n)]) rfl ?_
  repeat' first
    | (refine J.qv ?_; (with_reducible apply exq); focus (first
      | ((with_reducible apply Qv.buildS (T := 76)); exact rfl; (show _ = some (cliC (u : Int) (dlF d) (rootF (seedF u)) r9 k9 (.slice none 0 0) false)); kernel_rfl)))
    | ((with_reducible apply J.givesR (delay_ d)); exact rfl; exact rfl; focus (exact RH.true_))
    | ((with_reducible apply J.givesR (seed_ u)); exact rfl; exact rfl; focus (exact RH.of (by omega)))
    | ((with_reducible apply J.givesR (root_ (seedF u))); exact rfl; exact rfl; focus (exact RH.of (by simp [seedF])))
    | ((with_reducible apply J.givesR (clone0)); exact rfl; exact rfl; focus (exact RH.true_))
    | ((with_reducible apply J.newP room_); exact rfl; exact rfl; trivial; intro r9; (try dsimp only [List.cons_append, List.nil_append]))
    | ((with_reducible apply J.newP (disk_ n)); exact rfl; exact rfl; trivial; intro k9; (try dsimp only [List.cons_append, List.nil_append]))
    | refine J.one ?_
    | refine J.loudS ?_
    | (refine J.loudQ ?_; intro _ _)
    | (refine J.loudB ?_; intro _)
    | (with_reducible apply J.list)
    | ((with_reducible apply J.gsplit); exact rfl; exact rfl)
    | ((with_reducible first | apply J.cond | apply JC.cond); exact rfl)
    | (intro h; exfalso; (first | (simp at h; done) | (simp at h; omega) | omega))
    | (intro h; (try simp only [decide_eq_true_eq, decide_eq_false_iff_not, beq_iff_eq, beq_eq_false_iff_ne, Bool.not_eq_true', Bool.not_eq_false', bne_iff_ne, bne_eq_false_iff_eq, ne_eq, ge_iff_le, gt_iff_lt] at h))
    | (with_reducible apply J.gave')
    | ((with_reducible apply J.kept'); rotate_left; (repeat (first | (with_reducible exact Outs.nil) | ((with_reducible apply Outs.cons); (repeat (first | with_reducible exact Out.here | with_reducible apply Out.there))))))
  all_goals ((exact J.endNC (by (repeat (first | (with_reducible exact Outs.nil) | ((with_reducible apply Outs.cons); (repeat (first | with_reducible exact Out.here | with_reducible apply Out.there))))))))
theorem up_ (p : Nat) (u d : Int) (rt : List UInt8) (r k : Nat) (ds : Value) (dn : Bool) (w : World) : CSpec Try.prog 38 [.pointer (some ⟨p, 0, none⟩)] [blk p (cliC u d rt r k ds dn) 76] w (Keeps (.int .i64 (if dn = true then 17 else 0)) [blk p (cliC u d rt r k ds dn) 76]) := by
  refine spec_of Try.func38 rfl Try.ntmps38 rfl (l0 := [(0, .pointer (some ⟨p, 0, none⟩))]) rfl ?_
  intro fp
  repeat' first
    | (refine J.qr ?_; (with_reducible apply exq); focus (first
      | ((with_reducible apply Qr.load1); exact rfl; (focus ((repeat (first | with_reducible exact In.here | with_reducible apply In.there)); done)); exact rfl)))
    | refine J.one ?_
    | refine J.loudS ?_
    | (refine J.loudQ ?_; intro _ _)
    | (refine J.loudB ?_; intro _)
    | (with_reducible apply J.list)
    | ((with_reducible apply J.gsplit); exact rfl; exact rfl)
    | ((with_reducible first | apply J.cond | apply JC.cond); exact rfl)
    | (intro h; exfalso; (first | (simp at h; done) | (simp_all; done)))
    | (intro h; (try simp only [decide_eq_true_eq, decide_eq_false_iff_not, beq_iff_eq, beq_eq_false_iff_ne, Bool.not_eq_true', Bool.not_eq_false', bne_iff_ne, bne_eq_false_iff_eq, ne_eq, ge_iff_le, gt_iff_lt] at h))
    | (with_reducible apply J.gave')
    | ((with_reducible apply J.kept'); rotate_left; (repeat (first | (with_reducible exact Outs.nil) | ((with_reducible apply Outs.cons); (repeat (first | with_reducible exact Out.here | with_reducible apply Out.there))))))
  all_goals ((simp_all [retv]; done))
end Go.Proofs.Ytfcaeifpclpnoaa.Cli
namespace Go.Proofs.Ytfcaeifpclpnoaa.Cfe
open Go Go.RowKit Eng
set_option linter.unusedVariables false
set_option maxRecDepth 100000
set_option linter.unusedSimpArgs false
open Sha Iter Hash Bytes Hsum Ots Rsum Rovr Mrt Mrr Wide Cli
set_option maxHeartbeats 1000000
theorem up0_ (p : Nat) (u d : Int) (rt : List UInt8) (r k : Nat) (ds : Value) (w : World) : CSpec Try.prog 38 [.pointer (some ⟨p, 0, none⟩)] [blk p (cliC u d rt r k ds false) 76] w (Keeps (.int .i64 0) [blk p (cliC u d rt r k ds false) 76]) := by
  refine spec_of Try.func38 rfl Try.ntmps38 rfl (l0 := [(0, .pointer (some ⟨p, 0, none⟩))]) rfl ?_
  intro fp
  repeat' first
    | (refine J.qr ?_; (with_reducible apply exq); focus (first
      | ((with_reducible apply Qr.load1); exact rfl; (focus ((repeat (first | with_reducible exact In.here | with_reducible apply In.there)); done)); exact rfl)))
    | refine J.one ?_
    | refine J.loudS ?_
    | (refine J.loudQ ?_; intro _ _)
    | (refine J.loudB ?_; intro _)
    | (with_reducible apply J.list)
    | ((with_reducible apply J.gsplit); exact rfl; exact rfl)
    | ((with_reducible first | apply J.cond | apply JC.cond); exact rfl)
    | (intro h; exfalso; (first | (simp at h; done) | omega))
    | (intro h; (try simp only [decide_eq_true_eq, decide_eq_false_iff_not, beq_iff_eq, beq_eq_false_iff_ne, Bool.not_eq_true', Bool.not_eq_false', bne_iff_ne, bne_eq_false_iff_eq, ne_eq, ge_iff_le, gt_iff_lt] at h))
    | (with_reducible apply J.gave')
    | ((with_reducible apply J.kept'); rotate_left; (repeat (first | (with_reducible exact Outs.nil) | ((with_reducible apply Outs.cons); (repeat (first | with_reducible exact Out.here | with_reducible apply Out.there))))))
  all_goals (rfl)
theorem down_ (p : Nat) (u d : Int) (rt : List UInt8) (r k : Nat) (ds : Value) (w : World) : CSpec Try.prog 22 [.pointer (some ⟨p, 0, none⟩)] [blk p (cliC u d rt r k ds false) 76] w (Keeps (.bool false) [blk p (cliC u d rt r k ds false) 76]) := by
  refine spec_of Try.func22 rfl Try.ntmps22 rfl (l0 := [(0, .pointer (some ⟨p, 0, none⟩))]) rfl ?_
  intro fp
  repeat' first
    | ((with_reducible apply J.keepsW (up0_ _ _ _ _ _ _ _)); exact rfl; exact rfl; (repeat (first | (with_reducible exact Outs.nil) | ((with_reducible apply Outs.cons); (repeat (first | with_reducible exact Out.here | with_reducible apply Out.there))))))
    | refine J.one ?_
    | refine J.loudS ?_
    | (refine J.loudQ ?_; intro _ _)
    | (refine J.loudB ?_; intro _)
    | (with_reducible apply J.list)
    | ((with_reducible apply J.gsplit); exact rfl; exact rfl)
    | ((with_reducible first | apply J.cond | apply JC.cond); exact rfl)
    | (intro h; exfalso; (first | (simp at h; done) | omega))
    | (intro h; (try simp only [decide_eq_true_eq, decide_eq_false_iff_not, beq_iff_eq, beq_eq_false_iff_ne, Bool.not_eq_true', Bool.not_eq_false', bne_iff_ne, bne_eq_false_iff_eq, ne_eq, ge_iff_le, gt_iff_lt] at h))
    | (with_reducible apply J.gave')
    | ((with_reducible apply J.kept'); rotate_left; (repeat (first | (with_reducible exact Outs.nil) | ((with_reducible apply Outs.cons); (repeat (first | with_reducible exact Out.here | with_reducible apply Out.there))))))
  all_goals (rfl)
theorem croot_ (p : Nat) (u d : Int) (rt : List UInt8) (r k : Nat) (ds : Value) (w : World) : CSpec Try.prog 23 [.pointer (some ⟨p, 0, none⟩)] [blk p (cliC u d rt r k ds false) 76] w (Keeps (str rt) [blk p (cliC u d rt r k ds false) 76]) := by
  refine spec_of Try.func23 rfl Try.ntmps23 rfl (l0 := [(0, .pointer (some ⟨p, 0, none⟩))]) rfl ?_
  intro fp
  repeat' first
    | (refine J.qr ?_; (with_reducible apply exq); focus (first
      | ((with_reducible apply Qr.load1); exact rfl; (focus ((repeat (first | with_reducible exact In.here | with_reducible apply In.there)); done)); exact rfl)))
    | refine J.one ?_
    | refine J.loudS ?_
    | (refine J.loudQ ?_; intro _ _)
    | (refine J.loudB ?_; intro _)
    | (with_reducible apply J.list)
    | ((with_reducible apply J.gsplit); exact rfl; exact rfl)
    | ((with_reducible first | apply J.cond | apply JC.cond); exact rfl)
    | (intro h; exfalso; (first | (simp at h; done) | omega))
    | (intro h; (try simp only [decide_eq_true_eq, decide_eq_false_iff_not, beq_iff_eq, beq_eq_false_iff_ne, Bool.not_eq_true', Bool.not_eq_false', bne_iff_ne, bne_eq_false_iff_eq, ne_eq, ge_iff_le, gt_iff_lt] at h))
    | (with_reducible apply J.gave')
    | ((with_reducible apply J.kept'); rotate_left; (repeat (first | (with_reducible exact Outs.nil) | ((with_reducible apply Outs.cons); (repeat (first | with_reducible exact Out.here | with_reducible apply Out.there))))))
  all_goals (rfl)
/-- A fee. -/
def feeF (n : Int) : Int := if 1 < n then 1 else 0
theorem fee_y {n : Int} (h : 0 < wcmp n 1) : feeF n = 1 := by
  unfold wcmp at h
  unfold feeF
  split at h
  · omega
  · split at h
    · rw [if_pos (by omega)]
    · omega
theorem fee_n {n : Int} (h : ¬ 0 < wcmp n 1) : feeF n = 0 := by
  unfold wcmp at h
  unfold feeF
  split at h
  · rw [if_neg (by omega)]
  · split at h
    · omega
    · rw [if_neg (by omega)]
theorem fee_ (v : Value) (n : Int) (hn : Wd n) (w : World) : CSpec Try.prog 9 [v, .agg (wv n).toArray] [] w (Gives (.agg (wv (feeF n)).toArray)) := by
  refine spec_of Try.func9 rfl Try.ntmps9 rfl (l0 := [(0, v), (1, .agg (wv n).toArray)]) rfl ?_
  intro fp
  repeat' first
    | (refine J.qr ?_; (with_reducible apply exq); focus (first
      | ((with_reducible apply Qr.loadFull); exact rfl; (focus ((repeat (first | with_reducible exact In.here | with_reducible apply In.there)); done)); with_reducible exact wv_length _)))
    | (refine J.qo ?_; refine ⟨?_, ?_⟩; focus (first
      | ((with_reducible apply Qr.loadFull); exact rfl; (focus ((repeat (first | with_reducible exact In.here | with_reducible apply In.there)); done)); with_reducible exact wv_length _)))
    | ((with_reducible apply J.allocW); exact rfl; exact rfl; intro _)
    | ((with_reducible apply J.givesP (Wide.of 1)); exact rfl; exact rfl; (unfold Wo; omega))
    | ((with_reducible apply J.givesP (Cmp.cmp n 1)); exact rfl; exact rfl; (exact ⟨hn, by unfold Wd; omega⟩))
    | refine J.one ?_
    | refine J.loudS ?_
    | (refine J.loudQ ?_; intro _ _)
    | (refine J.loudB ?_; intro _)
    | (with_reducible apply J.list)
    | ((with_reducible apply J.draw (id := 1) [0, 0, 3, 7] (.q 0 (.x 1 (.x 2 (.p 3 .nil) .none) .none)) (by kernel_rfl) ?_ (by kernel_rfl) ?_); (repeat (with_reducible first | exact PanicFree.body | exact PanicFree.np | exact PanicFree.lvS | apply PanicFree.then_ | apply PanicFree.blk)))
    | ((with_reducible apply J.pl2); exact rfl; (first | exact Gd.none | ((with_reducible apply Gd.on); exact rfl; exact rfl)); (repeat (first | (with_reducible exact PendF.nil) | ((with_reducible apply PendF.keep); exact rfl) | ((with_reducible apply PendF.gone); exact rfl))))
    | ((with_reducible apply J.pl2_off); exact rfl; ((with_reducible apply Gd.off); exact rfl; exact rfl; exact rfl); exact rfl; (repeat (first | (with_reducible exact PendF.nil) | ((with_reducible apply PendF.keep); exact rfl) | ((with_reducible apply PendF.gone); exact rfl))))
    | ((with_reducible apply J.pl2_off_none); exact rfl; ((with_reducible apply Gd.off); exact rfl; exact rfl; exact rfl); (repeat (first | (with_reducible exact PendF.nil) | ((with_reducible apply PendF.keep); exact rfl) | ((with_reducible apply PendF.gone); exact rfl))))
    | ((with_reducible first | apply J.psplit0 | apply J.psplit1 | apply J.psplit2); exact rfl; exact rfl; exact rfl)
    | (with_reducible exact J.pl_none)
    | ((with_reducible apply J.gsplit); exact rfl; exact rfl)
    | ((with_reducible first | apply J.cond | apply JC.cond); exact rfl)
    | (intro h; exfalso; (first | (simp at h; done) | omega))
    | (intro h; (try simp only [decide_eq_true_eq, decide_eq_false_iff_not, beq_iff_eq, beq_eq_false_iff_ne, Bool.not_eq_true', Bool.not_eq_false', bne_iff_ne, bne_eq_false_iff_eq, ne_eq, ge_iff_le, gt_iff_lt] at h))
    | (with_reducible apply J.gave')
    | ((with_reducible apply J.kept'); rotate_left; (repeat (first | (with_reducible exact Outs.nil) | ((with_reducible apply Outs.cons); (repeat (first | with_reducible exact Out.here | with_reducible apply Out.there))))))
  all_goals
    first
    | (simp only [retv]; rw [fee_y (by assumption)]; done)
    | (simp only [retv]; rw [fee_n (by assumption)]; rfl)
    | (trace_state; fail)
theorem rroot_c (s R : List UInt8) (h : rootF s = R) (w : World) (hw : s.length ≤ 1000) : CSpec Try.prog 24 [str s] [] w (Gives (str R)) := h ▸ rroot_ s w hw
theorem root8 (s : List UInt8) : ((rootF s).length : Int) = 8 := by rw [rootF_length]; rfl
theorem alive20  (w : World) (hw : True) : CSpec Try.prog 7 [] [] w (Gives (.bool true)) := by
  obtain ⟨R, hR, hl⟩ : ∃ R, rootF (seedF 0) = R ∧ R.length = 8 := ⟨_, rfl, rootF_length _⟩
  refine spec_own0 Try.func7 rfl Try.ntmps7 rfl (l0 := []) rfl ?_
  repeat' first
    | ((with_reducible apply J.givesR (newX 9 1 900 (by omega))); exact rfl; exact rfl; focus (exact RH.true_))
    | ((with_reducible apply J.newC (fun w => new_ 0 1 900 (by omega) w trivial) hR); exact rfl; exact rfl; intro p9 r9 k9)
    | ((with_reducible apply J.keepsW (down_ _ _ _ _ _ _ _)); exact rfl; exact rfl; (repeat (first | (with_reducible exact Outs.nil) | ((with_reducible apply Outs.cons); (repeat (first | with_reducible exact Out.here | with_reducible apply Out.there))))))
    | ((with_reducible apply J.keepsW (croot_ _ _ _ _ _ _ _)); exact rfl; exact rfl; (repeat (first | (with_reducible exact Outs.nil) | ((with_reducible apply Outs.cons); (repeat (first | with_reducible exact Out.here | with_reducible apply Out.there))))))
    | ((with_reducible apply J.givesR (rroot_c (seedF 0) R hR)); exact rfl; exact rfl; focus (exact RH.of (by decide)))
    | ((with_reducible apply J.givesR (seed_ 1)); exact rfl; exact rfl; focus (exact RH.of (by omega)))
    | refine J.one ?_
    | refine J.loudS ?_
    | (refine J.loudQ ?_; intro _ _)
    | (refine J.loudB ?_; intro _)
    | (with_reducible apply J.list)
    | ((with_reducible apply J.gsplit); exact rfl; exact rfl)
    | ((with_reducible first | apply J.cond | apply JC.cond); exact rfl)
    | (intro h; exfalso; (first | (simp at h; done) | (rw [hl] at h; simp at h; done) | (revert h; decide)))
    | (intro h; (try simp only [decide_eq_true_eq, decide_eq_false_iff_not, beq_iff_eq, beq_eq_false_iff_ne, Bool.not_eq_true', Bool.not_eq_false', bne_iff_ne, bne_eq_false_iff_eq, ne_eq, ge_iff_le, gt_iff_lt] at h))
    | (with_reducible apply J.gave')
    | ((with_reducible apply J.kept'); rotate_left; (repeat (first | (with_reducible exact Outs.nil) | ((with_reducible apply Outs.cons); (repeat (first | with_reducible exact Out.here | with_reducible apply Out.there))))))
  all_goals (rfl)
def uF (x : Int) : Nat := ((x.tmod 2 + 2).tmod 2).toNat
theorem tm2 (x : Int) : -2 < x.tmod 2 ∧ x.tmod 2 < 2 := by
  have h1 := Int.tmod_lt_of_pos x (b := 2) (by decide)
  have h2 := Int.lt_tmod_of_pos x (b := 2) (by decide)
  omega
theorem uF_eq (x : Int) : (x.tmod 2 + 2).tmod 2 = (uF x : Int) := by
  have h0 := tm2 x
  have h2 := Int.tmod_nonneg 2 (a := x.tmod 2 + 2) (by omega)
  unfold uF
  omega
theorem uF_le (x : Int) : uF x ≤ 1 := by
  have h0 := tm2 x
  have h1 := Int.tmod_lt_of_pos (x.tmod 2 + 2) (b := 2) (by decide)
  unfold uF
  omega
theorem wx_at {n : Int} {i : Nat} {x : Int} (h : (wv n)[i]? = some (.int .u64 x)) : (wv n)[i]? = some (.int .u64 x) := h
theorem fees (u n : Int) (hn : Wd n) (w : World) (hw : True) : CSpec Try.prog 3 [.int .i64 u, .agg (wv n).toArray] [] w (Gives (.bool true)) := by
  obtain ⟨x0, x1, x2, x3, h0, h1, h2, h3, rfl⟩ := wd_words hn
  obtain ⟨n, en⟩ : ∃ n, n = x0 + 18446744073709551616 * x1 + 340282366920938463463374607431768211456 * x2 + 6277101735386680763835789423207666416102355444464034512896 * x3 := ⟨_, rfl⟩
  have ew := wv_words h0 h1 h2 h3
  rw [← en] at hn ew ⊢
  have e12 := orI_wo h1 h2
  have z12 := orI_zero h1 h2
  have z123 := orI_zero e12 h3
  have g0 : (wv n)[0]? = some (.int .u64 x0) := by rw [ew]; rfl
  have g1 : (wv n)[1]? = some (.int .u64 x1) := by rw [ew]; rfl
  have g2 : (wv n)[2]? = some (.int .u64 x2) := by rw [ew]; rfl
  have g3 : (wv n)[3]? = some (.int .u64 x3) := by rw [ew]; rfl
  have b0 := h0
  have b1 := h1
  have b2 := h2
  have b3 := h3
  unfold Wo at b0 b1 b2 b3
  clear ew
  obtain ⟨R, hR⟩ : ∃ R, rootF (seedF (uF u)) = R := ⟨_, rfl⟩
  refine spec_own0 Try.func3 rfl Try.ntmps3 rfl (l0 := [(0, .int .i64 u), (1, .agg (wv n).toArray)]) rfl ?_
  repeat' first
    | (refine J.qv ?_; (with_reducible apply exq); focus (first
      | ((with_reducible apply Qv.rem); exact rfl; exact rfl; decide; exact uF_eq u)
      | ((with_reducible apply Qv.rem); exact rfl; exact rfl; decide; exact rfl)
      | ((with_reducible apply Qv.add); exact rfl; exact rfl; exact wr64 (by have := tm2 u; omega) (by have := tm2 u; omega) (show u.tmod 2 + 2 = _ from rfl))
      | ((with_reducible apply Qv.indexArr (o' := 0)); exact rfl; exact rfl; (focus (constructor <;> decide)); exact (show 0 + Int.toNat 0 * 1 = 0 from rfl))
      | ((with_reducible apply Qv.indexArr (o' := 1)); exact rfl; exact rfl; (focus (constructor <;> decide)); exact (show 0 + Int.toNat 1 * 1 = 1 from rfl))
      | ((with_reducible apply Qv.indexArr (o' := 2)); exact rfl; exact rfl; (focus (constructor <;> decide)); exact (show 0 + Int.toNat 2 * 1 = 2 from rfl))
      | ((with_reducible apply Qv.indexArr (o' := 3)); exact rfl; exact rfl; (focus (constructor <;> decide)); exact (show 0 + Int.toNat 3 * 1 = 3 from rfl))
      | ((with_reducible apply Qv.or); exact rfl; exact rfl)
      | ((with_reducible apply Qv.eqlA); exact rfl; exact rfl; kernel_rfl; (exact fun w => weq (feeF n) 1 (And.intro (by unfold Wd feeF; split <;> omega) (by unfold Wd; omega)) w))
      | ((with_reducible apply Qv.eqlA); exact rfl; exact rfl; kernel_rfl; (exact fun w => weq (feeF n) 0 (And.intro (by unfold Wd feeF; split <;> omega) (by unfold Wd; omega)) w))))
    | (refine J.qr ?_; (with_reducible apply exq); focus (first
      | ((with_reducible apply Qr.load1); exact rfl; (focus ((repeat (first | with_reducible exact In.here | with_reducible apply In.there)); done)); (with_reducible first | exact g0 | exact g1 | exact g2 | exact g3))
      | ((with_reducible apply Qr.loadFull); exact rfl; (focus ((repeat (first | with_reducible exact In.here | with_reducible apply In.there)); done)); with_reducible exact wv_length _)))
    | ((with_reducible apply J.allocW); exact rfl; exact rfl; intro _)
    | ((with_reducible apply J.givesR (alive20)); exact rfl; exact rfl; focus (exact RH.true_))
    | ((with_reducible apply J.newC (fun w => new_ (uF u) 1 900 (uF_le u) w trivial) hR); exact rfl; exact rfl; intro p9 r9 k9)
    | ((with_reducible apply J.givesP (fee_ _ _)); exact rfl; exact rfl; (exact hn))
    | refine J.one ?_
    | refine J.loudS ?_
    | (refine J.loudQ ?_; intro _ _)
    | (refine J.loudB ?_; intro _)
    | (with_reducible apply J.list)
    | ((with_reducible apply J.gsplit); exact rfl; exact rfl)
    | ((with_reducible first | apply J.cond | apply JC.cond); exact rfl)
    | (intro h; exfalso; (first | (simp at h; done) | omega))
    | (intro h; (try simp only [decide_eq_true_eq, decide_eq_false_iff_not, beq_iff_eq, beq_eq_false_iff_ne, Bool.not_eq_true', Bool.not_eq_false', bne_iff_ne, bne_eq_false_iff_eq, ne_eq, ge_iff_le, gt_iff_lt] at h))
    | (with_reducible apply J.gave')
    | ((with_reducible apply J.kept'); rotate_left; (repeat (first | (with_reducible exact Outs.nil) | ((with_reducible apply Outs.cons); (repeat (first | with_reducible exact Out.here | with_reducible apply Out.there))))))
  all_goals first
    | (have e1 : feeF n = 1 := if_pos (by omega)
       simp only [retv, e1]
       rfl)
    | (have e1 : feeF n = 0 := if_neg (by omega)
       simp only [retv, e1]
       rfl)
    | (trace_state; fail)
theorem ClientFees {r : Reach} {b0 : Nat} {H : Type} {enc : TypeId × Value → H} {spare : Nat → Bool} {held : Bool} {d1 : DataW H} {p1 : List MemPlace} (x0 : Int) (v1 : Value) (W : World) (h0 : (Lit.int .i64 x0).wf = true) (o1 : Value.okWide Try.prog W r b0 24 v1) (t1 : DataW.Trod enc Try.prog W 0 spare held 24 v1 d1 p1) :
    Calls Try.prog 3 #[.int .i64 x0, v1] W fun e w' => e = .returned (.bool true) ∧ Below W.heap.size W w' := by
  obtain ⟨c1, rfl, r1⟩ := in_agg (L := wsh) (k := 3) o1 t1 (by kernel_rfl) (by kernel_rfl)
  obtain ⟨x1, h1, rfl⟩ := reads_wv r1
  exact (fees x0 x1 h1 W trivial).below
end Go.Proofs.Ytfcaeifpclpnoaa.Cfe
