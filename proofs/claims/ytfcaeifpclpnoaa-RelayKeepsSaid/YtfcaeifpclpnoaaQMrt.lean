/-
  Keys of eight leaves: their roots. No conditions.
-/
import Derived.Test.YtfcaeifpclpnoaaQRovr
import Derived.Test.YtfcaeifpclpnoaaQOts
namespace Go.Proofs.Ytfcaeifpclpnoaa.Mrt
open Go Go.RowKit Eng
set_option linter.unusedVariables false
set_option maxRecDepth 100000
set_option linter.unusedSimpArgs false
open Sha Iter Hash Bytes Hsum Ots Rsum Rovr
set_option maxHeartbeats 1000000
/-- A leaf's beginnings. -/
def bgn (seed : List UInt8) (leaf j : Nat) : List UInt8 := short (seed ++ num leaf 2 ++ [UInt8.ofNat j])
def bgL (seed : List UInt8) (leaf : Nat) : List (List UInt8) := (List.range 15).map (bgn seed leaf)
theorem bgL_length (seed : List UInt8) (leaf : Nat) : (bgL seed leaf).length = 15 := by simp [bgL]
theorem bgL_get (seed : List UInt8) (leaf : Nat) {j : Nat} (h : j < 15) : (bgL seed leaf)[j]? = some (bgn seed leaf j) := by simp [bgL, h]
theorem bgL_le (seed : List UInt8) (leaf : Nat) : ∀ p, p ∈ bgL seed leaf → p.length ≤ 8 := by
  intro p hp
  simp only [bgL, List.mem_map] at hp
  obtain ⟨j, _, rfl⟩ := hp
  exact Nat.le_of_eq (short_length _)
/-- A leaf's public part. -/
def pubF (seed : List UInt8) (leaf : Nat) : List UInt8 := short (closedL (bgL seed leaf) (List.replicate 15 0)).flatten
def rowL (seed : List UInt8) : List (List UInt8) := (List.range 8).map (pubF seed)
theorem rowL_get (seed : List UInt8) {j : Nat} (h : j < 8) : (rowL seed)[j]? = some (pubF seed j) := by simp [rowL, h]
theorem rowL_length (seed : List UInt8) : (rowL seed).length = 8 := by simp [rowL]
theorem pubF_length (seed : List UInt8) (i : Nat) : (pubF seed i).length = 8 := short_length _
/-- The row above. -/
def abv : List (List UInt8) → List (List UInt8)
  | a :: b :: r => short (a ++ b) :: abv r
  | _ => []
theorem abv_get : ∀ {L : List (List UInt8)} {k : Nat} {a b : List UInt8}, L[2 * k]? = some a → L[2 * k + 1]? = some b → (abv L)[k]? = some (short (a ++ b))
  | [], k, a, b, h, _ => by simp at h
  | [x], k, a, b, _, h => by simp at h
  | x :: y :: r, 0, a, b, h1, h2 => by
    simp at h1 h2
    subst h1 h2
    rfl
  | x :: y :: r, k + 1, a, b, h1, h2 => by
    rw [show 2 * (k + 1) = 2 * k + 1 + 1 by omega] at h1
    rw [show 2 * (k + 1) + 1 = 2 * k + 1 + 1 + 1 by omega] at h2
    simp only [List.getElem?_cons_succ] at h1 h2
    show (abv r)[k]? = _
    exact abv_get h1 h2
theorem abv_length : ∀ {L : List (List UInt8)} {m : Nat}, L.length = 2 * m → (abv L).length = m
  | [], m, h => by
    have h : m = 0 := by simp at h; omega
    subst h
    rfl
  | [x], m, h => by simp at h; omega
  | x :: y :: r, m, h => by
    cases m with
    | zero => simp at h
    | succ m =>
      simp at h
      show (abv r).length + 1 = _
      rw [abv_length (L := r) (m := m) (by omega)]
theorem abv_le : ∀ {L : List (List UInt8)} {x : List UInt8}, x ∈ abv L → x.length = 8
  | [], x, h => by cases h
  | [y], x, h => by cases h
  | a :: b :: r, x, h => by
    rcases List.mem_cons.1 h with rfl | h
    · exact short_length _
    · exact abv_le h
/-- A key's root. -/
def rootF (seed : List UInt8) : List UInt8 := (abv (abv (abv (rowL seed)))).getD 0 []
def r2F (seed : List UInt8) (i : Nat) : List UInt8 := short (pubF seed i ++ pubF seed (i + 1))
def r4F (seed : List UInt8) (i : Nat) : List UInt8 := short (r2F seed i ++ r2F seed (i + 2))
theorem root_eq (seed : List UInt8) : rootF seed = short (r4F seed 0 ++ r4F seed 4) := rfl
theorem rootF_length (seed : List UInt8) : (rootF seed).length = 8 := by rw [root_eq]; exact short_length _
theorem clampL {k : Nat} (h : k ≤ 7) : imin (imax (k : Int) 0) 65535 = (k : Int) := by unfold imin imax; split <;> split <;> omega
theorem wj {j : Nat} (h : j < 15) : IntKind.u8.wrap (j : Int) = ((UInt8.ofNat j).toNat : Int) := by
  rw [show IntKind.u8.wrap (j : Int) = ((j % 256 : Nat) : Int) from wr8]
  simp
theorem RH.b1 {w0 : World} {own : List Nat} {H : List Asrt} {b E : Nat} {x : UInt8} (hm : In (Eng.blk b [Value.int .u8 (x.toNat : Int)] E) H) : RH w0 own H (fun w => Rd w (some ⟨b, 0, none⟩) (bcs [x])) := RH.blk0 hm
theorem RH.zs {w0 : World} {own : List Nat} {H : List Asrt} {b E : Nat} (hm : In (Eng.blk b (tab (fun _ => Value.int .i64 0) 15) E) H) : RH w0 own H (fun w => Rd w (some ⟨b, 0, none⟩) (ncs (List.replicate 15 0))) := RH.blk0 hm
theorem pub_eq (seed : List UInt8) (leaf : Nat) : short ((bgL seed leaf).map fun p => wk p 3).flatten = pubF seed leaf := rfl
theorem wk8 {s : List UInt8} (h : s.length = 8) : ∀ k, (wk s k).length = 8
  | 0 => h
  | k + 1 => short_length _
theorem numL (leaf : Nat) (h : leaf ≤ 7) (w : World) (hw : True) : CSpec Try.prog 78 [.int .i64 (imin (imax (leaf : Int) 0) 65535), .int .i64 2] [] w (Fresh 5 1 2 (bcs (num leaf 2)) []) := by
  rw [clampL h]
  exact num_ leaf 2 w (by omega)
theorem rnumL (leaf : Nat) (h : leaf ≤ 7) (w : World) (hw : True) : CSpec Try.prog 129 [.int .i64 (imin (imax (leaf : Int) 0) 65535), .int .i64 2] [] w (Fresh 5 1 2 (bcs (num leaf 2)) []) := by
  rw [clampL h]
  exact rnum leaf 2 w (by omega)
theorem bgnS (seed : List UInt8) (leaf j : Nat) (ao : Option Addr) (n cap : Nat) (w : World) (hw : RdS w ao [seed, num leaf 2, [UInt8.ofNat j]] ∧ n = 3 ∧ seed.length ≤ 1000) : CSpec Try.prog 121 [.slice ao n cap] [] w (Gives (str (bgn seed leaf j))) := by
  have h := short_ ao n cap [seed, num leaf 2, [UInt8.ofNat j]] w ⟨hw.1, hw.2.1, by have := hw.2.2; simp [num_length]; omega, by simp⟩
  rw [show ([seed, num leaf 2, [UInt8.ofNat j]] : List (List UInt8)).flatten = seed ++ num leaf 2 ++ [UInt8.ofNat j] by simp] at h
  exact h
theorem begin_ (seed : List UInt8) (leaf : Nat) (hl : leaf ≤ 7) (w : World) (hw : seed.length ≤ 1000) : CSpec Try.prog 120 [str seed, .int .i64 (leaf : Int)] [] w (Fresh 9 1 15 (scs (bgL seed leaf)) []) := by
  refine spec_own0 Try.func120 rfl Try.ntmps120 rfl (l0 := [(0, str seed), (1, .int .i64 (leaf : Int))]) rfl ?_
  repeat' first
    | ((with_reducible apply J.freshR (numL leaf hl)); exact rfl; exact rfl; (focus (exact RH.true_)); intro _ _)
    | refine J.one ?_
    | refine J.loudS ?_
    | (refine J.loudQ ?_; intro _ _)
    | (refine J.loudB ?_; intro _)
    | (with_reducible apply J.list)
    | ((with_reducible apply J.gsplit); exact rfl; exact rfl)
    | ((with_reducible first | apply J.cond | apply JC.cond); exact rfl)
    | (intro h; exfalso; fail)
    | (intro h; (try simp only [decide_eq_true_eq, decide_eq_false_iff_not, beq_iff_eq, beq_eq_false_iff_ne, Bool.not_eq_true', Bool.not_eq_false', bne_iff_ne, bne_eq_false_iff_eq, ne_eq, ge_iff_le, gt_iff_lt] at h))
    | (with_reducible apply J.gave')
    | ((with_reducible apply J.kept'); rotate_left; (repeat (first | (with_reducible exact Outs.nil) | ((with_reducible apply Outs.cons); (repeat (first | with_reducible exact Out.here | with_reducible apply Out.there))))))
  rename_i qn _
  refine J.nilRowC 9 1 (scs ((bgL seed leaf).take 0)) rfl ?_
  apply J.loopI (σ := (Nat × (Option Addr × Nat))) (I := fun s => (s.1 ≤ 15)) (L := fun s => [(0, str seed), (6, .slice qn.1 2 qn.2), (12, .int .i64 (s.1 : Int)), (5, .slice s.2.1 s.1 s.2.2)]) (HH := fun s => [row (.slice s.2.1 s.1 s.2.2) 9 1 s.1 (scs ((bgL seed leaf).take s.1)), row (.slice qn.1 2 qn.2) 5 1 2 (bcs (num leaf 2))]) (m := fun s => 15 - s.1) (s0 := (0, (none, 0)))
  · ((try dsimp only); (exact Nat.zero_le _))
  · ((try dsimp only); repeat (first | exact sub.nil _ | (refine sub.consE rfl ?_ ?_; (first | with_reducible rfl | (fail) | rfl))))
  · ((try dsimp only); (repeat (first | (with_reducible exact Outs.nil) | ((with_reducible apply Outs.cons); (repeat (first | with_reducible exact Out.here | with_reducible apply Out.there))))))
  rintro ⟨j, q⟩ hI
  try dsimp only at hI ⊢
  rcases Nat.lt_or_ge j 15 with hlt | hge
  · have hts := take_snoc (bgL_get seed leaf hlt)
    repeat' first
      | (refine J.qv ?_; (with_reducible apply exq); focus (first
        | ((with_reducible apply Qv.conv); exact rfl; exact wj (by omega))))
      | ((with_reducible apply J.appendR (news := [_])); exact rfl; exact rfl; (repeat (first | with_reducible exact Out.here | with_reducible apply Out.there)); exact rfl; exact RH.blk0 (by (repeat (first | with_reducible exact In.here | with_reducible apply In.there))); exact rfl; exact rfl; exact rfl; exact rfl; (simp only [maxLen]; omega); omega; intro _ _)
      | ((with_reducible apply J.givesR (bgnS seed leaf j _ _ _)); exact rfl; exact rfl; focus (exact RH.and (RH.sblk (by (repeat (first | with_reducible exact In.here | with_reducible apply In.there))) (RH.lcons (RH.bbat (by (repeat (first | with_reducible exact In.here | with_reducible apply In.there)))) (RH.lcons (RH.brow (by (repeat (first | with_reducible exact In.here | with_reducible apply In.there)))) (RH.lcons (RH.b (RH.b1 (by (repeat (first | with_reducible exact In.here | with_reducible apply In.there)))) (by rfl) (by decide)) RH.lnil)))) (RH.of ⟨rfl, hw⟩)))
      | refine J.one ?_
      | refine J.loudS ?_
      | (refine J.loudQ ?_; intro _ _)
      | (refine J.loudB ?_; intro _)
      | (with_reducible apply J.list)
      | ((with_reducible apply J.gsplit); exact rfl; exact rfl)
      | ((with_reducible first | apply J.cond | apply JC.cond); exact rfl)
      | (intro h; exfalso; (first | (simp at h; done) | (simp at h; omega) | omega))
      | (intro h; (try simp only [decide_eq_true_eq, decide_eq_false_iff_not, beq_iff_eq, beq_eq_false_iff_ne, Bool.not_eq_true', Bool.not_eq_false', bne_iff_ne, bne_eq_false_iff_eq, ne_eq, ge_iff_le, gt_iff_lt] at h))
      | (with_reducible apply J.gave')
      | ((with_reducible apply J.kept'); rotate_left; (repeat (first | (with_reducible exact Outs.nil) | ((with_reducible apply Outs.cons); (repeat (first | with_reducible exact Out.here | with_reducible apply Out.there))))))
    all_goals
      first
      | (rename_i q9 _
         apply J.reR (E := 9) (v := .slice q9.1 (j + 1) q9.2) (n := j + 1) (C := scs ((bgL seed leaf).take j) ++ [str (bgn seed leaf j)]) (v' := .slice q9.1 (j + 1) q9.2) (n' := j + 1) (C' := scs ((bgL seed leaf).take (j + 1)))
         · (repeat (first | with_reducible exact Upd.here | with_reducible apply Upd.there))
         · rfl
         · rfl
         · (rw [hts, scs_append]; rfl)
         · (apply J.againI (s := (j, q)) (s' := (j + 1, q9)); (focus (omega)); (focus ((try dsimp only); (show j + 1 ≤ 15; omega))); (focus (((try dsimp only); repeat (first | exact sub.nil _ | (refine sub.consE rfl ?_ ?_; (first | with_reducible rfl | ((focus (congr 1; omega))) | rfl)))))); ((try dsimp only); (repeat (first | (with_reducible exact Outs.nil) | ((with_reducible apply Outs.cons); (repeat (first | with_reducible exact Out.here | with_reducible apply Out.there))))))))
      | (trace_state; fail)
  · obtain rfl : j = 15 := by omega
    have htk : (bgL seed leaf).take 15 = bgL seed leaf := List.take_of_length_le (by rw [bgL_length]; exact Nat.le_refl _)
    rw [htk]
    repeat' first
      | (refine J.qv ?_; (with_reducible apply exq); focus (first
        | ((with_reducible apply Qv.conv); exact rfl; exact wj (by omega))))
      | ((with_reducible apply J.appendR (news := [_])); exact rfl; exact rfl; (repeat (first | with_reducible exact Out.here | with_reducible apply Out.there)); exact rfl; exact RH.blk0 (by (repeat (first | with_reducible exact In.here | with_reducible apply In.there))); exact rfl; exact rfl; exact rfl; exact rfl; (simp only [maxLen]; omega); omega; intro _ _)
      | ((with_reducible apply J.givesR (bgnS seed leaf j _ _ _)); exact rfl; exact rfl; focus (exact RH.and (RH.sblk (by (repeat (first | with_reducible exact In.here | with_reducible apply In.there))) (RH.lcons (RH.bbat (by (repeat (first | with_reducible exact In.here | with_reducible apply In.there)))) (RH.lcons (RH.brow (by (repeat (first | with_reducible exact In.here | with_reducible apply In.there)))) (RH.lcons (RH.b (RH.b1 (by (repeat (first | with_reducible exact In.here | with_reducible apply In.there)))) (by rfl) (by decide)) RH.lnil)))) (RH.of ⟨rfl, hw⟩)))
      | refine J.one ?_
      | refine J.loudS ?_
      | (refine J.loudQ ?_; intro _ _)
      | (refine J.loudB ?_; intro _)
      | (with_reducible apply J.list)
      | ((with_reducible apply J.gsplit); exact rfl; exact rfl)
      | ((with_reducible first | apply J.cond | apply JC.cond); exact rfl)
      | (intro h; exfalso; (first | (simp at h; done) | (simp at h; omega) | omega))
      | (intro h; (try simp only [decide_eq_true_eq, decide_eq_false_iff_not, beq_iff_eq, beq_eq_false_iff_ne, Bool.not_eq_true', Bool.not_eq_false', bne_iff_ne, bne_eq_false_iff_eq, ne_eq, ge_iff_le, gt_iff_lt] at h))
      | (with_reducible apply J.gave')
      | ((with_reducible apply J.kept'); rotate_left; (repeat (first | (with_reducible exact Outs.nil) | ((with_reducible apply Outs.cons); (repeat (first | with_reducible exact Out.here | with_reducible apply Out.there))))))
    all_goals
      first
      | ((with_reducible apply J.freshRow); (repeat (first | with_reducible exact Out.here | with_reducible apply Out.there)); exact rfl; exact rfl; exact rfl)
      | (trace_state; fail)
theorem public_ (seed : List UInt8) (leaf : Nat) (hl : leaf ≤ 7) (w : World) (hw : seed.length ≤ 1000) : CSpec Try.prog 93 [str seed, .int .i64 (leaf : Int)] [] w (Gives (str (pubF seed leaf))) := by
  refine spec_own0 Try.func93 rfl Try.ntmps93 rfl (l0 := [(0, str seed), (1, .int .i64 (leaf : Int))]) rfl ?_
  repeat' first
    | ((with_reducible apply J.makeSlice (len := 15)); exact rfl; exact rfl; exact rfl; exact rfl; exact rfl; decide; decide; intro _)
    | ((with_reducible apply J.freshR (begin_ seed leaf hl)); exact rfl; exact rfl; (focus (exact RH.of hw)); intro _ _)
    | ((with_reducible apply J.givesR (closed_ _ _ _ (bgL seed leaf) _ _ _ (List.replicate 15 0))); exact rfl; exact rfl; focus (exact RH.and (RH.and (RH.row (by (repeat (first | with_reducible exact In.here | with_reducible apply In.there)))) (RH.zs (by (repeat (first | with_reducible exact In.here | with_reducible apply In.there))))) (RH.of ⟨(bgL_length _ _).symm, rfl, by rw [bgL_length]; rfl, by simp, bgL_le _ _, by rw [bgL_length]; decide⟩)))
    | refine J.one ?_
    | refine J.loudS ?_
    | (refine J.loudQ ?_; intro _ _)
    | (refine J.loudB ?_; intro _)
    | (with_reducible apply J.list)
    | ((with_reducible apply J.draw (id := 1) [0, 0, 3, 0, 15, 31] (.p 0 (.p 1 (.x 2 (.x 3 (.x 4 (.p 5 .nil) .none) .none) (.x 3 (.x 2 (.x 4 (.p 5 .nil) .none) .none) .none)))) (by kernel_rfl) ?_ (by kernel_rfl) ?_); (repeat (with_reducible first | exact PanicFree.body | exact PanicFree.np | exact PanicFree.lvS | apply PanicFree.then_ | apply PanicFree.blk)))
    | ((with_reducible apply J.pl2); exact rfl; (first | exact Gd.none | ((with_reducible apply Gd.on); exact rfl; exact rfl)); (repeat (first | (with_reducible exact PendF.nil) | ((with_reducible apply PendF.keep); exact rfl) | ((with_reducible apply PendF.gone); exact rfl))))
    | ((with_reducible apply J.pl2_off); exact rfl; ((with_reducible apply Gd.off); exact rfl; exact rfl; exact rfl); exact rfl; (repeat (first | (with_reducible exact PendF.nil) | ((with_reducible apply PendF.keep); exact rfl) | ((with_reducible apply PendF.gone); exact rfl))))
    | ((with_reducible apply J.pl2_off_none); exact rfl; ((with_reducible apply Gd.off); exact rfl; exact rfl; exact rfl); (repeat (first | (with_reducible exact PendF.nil) | ((with_reducible apply PendF.keep); exact rfl) | ((with_reducible apply PendF.gone); exact rfl))))
    | ((with_reducible first | apply J.psplit0 | apply J.psplit1 | apply J.psplit2); exact rfl; exact rfl; exact rfl)
    | (with_reducible exact J.pl_none)
    | ((with_reducible apply J.gsplit); exact rfl; exact rfl)
    | ((with_reducible first | apply J.cond | apply JC.cond); exact rfl)
    | (intro h; exfalso; fail)
    | (intro h; (try simp only [decide_eq_true_eq, decide_eq_false_iff_not, beq_iff_eq, beq_eq_false_iff_ne, Bool.not_eq_true', Bool.not_eq_false', bne_iff_ne, bne_eq_false_iff_eq, ne_eq, ge_iff_le, gt_iff_lt] at h))
    | (with_reducible apply J.gave')
    | ((with_reducible apply J.kept'); rotate_left; (repeat (first | (with_reducible exact Outs.nil) | ((with_reducible apply Outs.cons); (repeat (first | with_reducible exact Out.here | with_reducible apply Out.there))))))
  all_goals (rfl)
theorem row_ (seed : List UInt8) (w : World) (hw : seed.length ≤ 1000) : CSpec Try.prog 56 [str seed] [] w (Fresh 9 1 8 (scs (rowL seed)) []) := by
  refine spec_own0 Try.func56 rfl Try.ntmps56 rfl (l0 := [(0, str seed)]) rfl ?_
  repeat' first
    | refine J.one ?_
    | refine J.loudS ?_
    | (refine J.loudQ ?_; intro _ _)
    | (refine J.loudB ?_; intro _)
    | (with_reducible apply J.list)
    | ((with_reducible apply J.gsplit); exact rfl; exact rfl)
    | ((with_reducible first | apply J.cond | apply JC.cond); exact rfl)
    | (intro h; exfalso; fail)
    | (intro h; (try simp only [decide_eq_true_eq, decide_eq_false_iff_not, beq_iff_eq, beq_eq_false_iff_ne, Bool.not_eq_true', Bool.not_eq_false', bne_iff_ne, bne_eq_false_iff_eq, ne_eq, ge_iff_le, gt_iff_lt] at h))
    | (with_reducible apply J.gave')
    | ((with_reducible apply J.kept'); rotate_left; (repeat (first | (with_reducible exact Outs.nil) | ((with_reducible apply Outs.cons); (repeat (first | with_reducible exact Out.here | with_reducible apply Out.there))))))
  refine J.nilRowC 9 1 (scs ((rowL seed).take 0)) rfl ?_
  apply J.loopI (σ := (Nat × (Option Addr × Nat))) (I := fun s => (s.1 ≤ 8)) (L := fun s => [(0, str seed), (5, .int .i64 (s.1 : Int)), (3, .slice s.2.1 s.1 s.2.2)]) (HH := fun s => [row (.slice s.2.1 s.1 s.2.2) 9 1 s.1 (scs ((rowL seed).take s.1))]) (m := fun s => 8 - s.1) (s0 := (0, (none, 0)))
  · ((try dsimp only); (exact Nat.zero_le _))
  · ((try dsimp only); repeat (first | exact sub.nil _ | (refine sub.consE rfl ?_ ?_; (first | with_reducible rfl | (fail) | rfl))))
  · ((try dsimp only); (repeat (first | (with_reducible exact Outs.nil) | ((with_reducible apply Outs.cons); (repeat (first | with_reducible exact Out.here | with_reducible apply Out.there))))))
  rintro ⟨j, q⟩ hI
  try dsimp only at hI ⊢
  rcases Nat.lt_or_ge j 8 with hlt | hge
  · have hts := take_snoc (rowL_get seed hlt)
    repeat' first
      | ((with_reducible apply J.appendR (news := [_])); exact rfl; exact rfl; (repeat (first | with_reducible exact Out.here | with_reducible apply Out.there)); exact rfl; exact RH.blk0 (by (repeat (first | with_reducible exact In.here | with_reducible apply In.there))); exact rfl; exact rfl; exact rfl; exact rfl; (simp only [maxLen]; omega); omega; intro _ _)
      | ((with_reducible apply J.givesR (public_ seed j (by omega))); exact rfl; exact rfl; focus (exact RH.of hw))
      | refine J.one ?_
      | refine J.loudS ?_
      | (refine J.loudQ ?_; intro _ _)
      | (refine J.loudB ?_; intro _)
      | (with_reducible apply J.list)
      | ((with_reducible apply J.gsplit); exact rfl; exact rfl)
      | ((with_reducible first | apply J.cond | apply JC.cond); exact rfl)
      | (intro h; exfalso; (first | (simp at h; done) | (simp at h; omega) | omega))
      | (intro h; (try simp only [decide_eq_true_eq, decide_eq_false_iff_not, beq_iff_eq, beq_eq_false_iff_ne, Bool.not_eq_true', Bool.not_eq_false', bne_iff_ne, bne_eq_false_iff_eq, ne_eq, ge_iff_le, gt_iff_lt] at h))
      | (with_reducible apply J.gave')
      | ((with_reducible apply J.kept'); rotate_left; (repeat (first | (with_reducible exact Outs.nil) | ((with_reducible apply Outs.cons); (repeat (first | with_reducible exact Out.here | with_reducible apply Out.there))))))
    all_goals
      first
      | (rename_i q9 _
         apply J.reR (E := 9) (v := .slice q9.1 (j + 1) q9.2) (n := j + 1) (C := scs ((rowL seed).take j) ++ [str (pubF seed j)]) (v' := .slice q9.1 (j + 1) q9.2) (n' := j + 1) (C' := scs ((rowL seed).take (j + 1)))
         · (repeat (first | with_reducible exact Upd.here | with_reducible apply Upd.there))
         · rfl
         · rfl
         · (rw [hts, scs_append]; rfl)
         · (apply J.againI (s := (j, q)) (s' := (j + 1, q9)); (focus (omega)); (focus ((try dsimp only); (show j + 1 ≤ 8; omega))); (focus (((try dsimp only); repeat (first | exact sub.nil _ | (refine sub.consE rfl ?_ ?_; (first | with_reducible rfl | ((focus (congr 1; omega))) | rfl)))))); ((try dsimp only); (repeat (first | (with_reducible exact Outs.nil) | ((with_reducible apply Outs.cons); (repeat (first | with_reducible exact Out.here | with_reducible apply Out.there))))))))
      | (trace_state; fail)
  · obtain rfl : j = 8 := by omega
    have htk : (rowL seed).take 8 = rowL seed := List.take_of_length_le (by rw [rowL_length]; exact Nat.le_refl _)
    rw [htk]
    repeat' first
      | refine J.one ?_
      | refine J.loudS ?_
      | (refine J.loudQ ?_; intro _ _)
      | (refine J.loudB ?_; intro _)
      | (with_reducible apply J.list)
      | ((with_reducible apply J.gsplit); exact rfl; exact rfl)
      | ((with_reducible first | apply J.cond | apply JC.cond); exact rfl)
      | (intro h; exfalso; (first | (simp at h; done) | (simp at h; omega) | omega))
      | (intro h; (try simp only [decide_eq_true_eq, decide_eq_false_iff_not, beq_iff_eq, beq_eq_false_iff_ne, Bool.not_eq_true', Bool.not_eq_false', bne_iff_ne, bne_eq_false_iff_eq, ne_eq, ge_iff_le, gt_iff_lt] at h))
      | (with_reducible apply J.gave')
      | ((with_reducible apply J.kept'); rotate_left; (repeat (first | (with_reducible exact Outs.nil) | ((with_reducible apply Outs.cons); (repeat (first | with_reducible exact Out.here | with_reducible apply Out.there))))))
    all_goals
      first
      | ((with_reducible apply J.freshRow); (repeat (first | with_reducible exact Out.here | with_reducible apply Out.there)); exact rfl; exact rfl; exact rfl)
      | (trace_state; fail)
theorem join_ (a b : List UInt8) (w : World) (hw : a.length + b.length ≤ 1099511627776) : CSpec Try.prog 94 [str a, str b] [] w (Gives (str (short (a ++ b)))) := by
  refine spec_own0 Try.func94 rfl Try.ntmps94 rfl (l0 := [(0, str a), (1, str b)]) rfl ?_
  repeat' first
    | ((with_reducible apply J.givesR (short_ _ _ _ [a, b])); exact rfl; exact rfl; focus (exact RH.and (RH.sblk (by (repeat (first | with_reducible exact In.here | with_reducible apply In.there))) (RH.lcons (RH.bbat (by (repeat (first | with_reducible exact In.here | with_reducible apply In.there)))) (RH.lcons (RH.bbat (by (repeat (first | with_reducible exact In.here | with_reducible apply In.there)))) RH.lnil))) (RH.of ⟨rfl, by simp; omega, by simp⟩)))
    | refine J.one ?_
    | refine J.loudS ?_
    | (refine J.loudQ ?_; intro _ _)
    | (refine J.loudB ?_; intro _)
    | (with_reducible apply J.list)
    | ((with_reducible apply J.gsplit); exact rfl; exact rfl)
    | ((with_reducible first | apply J.cond | apply JC.cond); exact rfl)
    | (intro h; exfalso; fail)
    | (intro h; (try simp only [decide_eq_true_eq, decide_eq_false_iff_not, beq_iff_eq, beq_eq_false_iff_ne, Bool.not_eq_true', Bool.not_eq_false', bne_iff_ne, bne_eq_false_iff_eq, ne_eq, ge_iff_le, gt_iff_lt] at h))
    | (with_reducible apply J.gave')
    | ((with_reducible apply J.kept'); rotate_left; (repeat (first | (with_reducible exact Outs.nil) | ((with_reducible apply Outs.cons); (repeat (first | with_reducible exact Out.here | with_reducible apply Out.there))))))
  all_goals ((first | rfl | (simp [retv]; done) | (simp only [retv, List.flatten_cons, List.flatten_nil, List.append_nil]; rfl)))
theorem above_ (ao : Option Addr) (n cap : Nat) (L : List (List UInt8)) (m : Nat) (w : World) (hw : Rd w ao (scs L) ∧ n = 2 * m ∧ L.length = 2 * m ∧ (∀ x, x ∈ L → x.length ≤ 8) ∧ 1 ≤ m ∧ m ≤ 1000) : CSpec Try.prog 57 [.slice ao n cap] [] w (Fresh 9 1 m (scs (abv L)) []) := by
  obtain ⟨hr, rfl, hln, h8, hm0, hm⟩ := hw
  have hal := abv_length hln
  have hao : ao.isSome = true := hr.isSome (by
    intro e
    have h9 := scs_length L
    rw [e] at h9
    simp at h9
    omega)
  refine spec_own0 Try.func57 rfl Try.ntmps57 rfl (l0 := [(0, .slice ao (2 * m) cap)]) rfl ?_
  repeat' first
    | refine J.one ?_
    | refine J.loudS ?_
    | (refine J.loudQ ?_; intro _ _)
    | (refine J.loudB ?_; intro _)
    | (with_reducible apply J.list)
    | ((with_reducible apply J.draw (id := 5) [0, 0, 0, 6, 14, 0, 0, 64, 224, 480, 1022, 2046, 4095, 8191] (.p 0 (.p 1 (.p 2 (.p 3 (.q 4 (.p 5 (.p 6 (.p 7 (.p 8 (.q 9 (.x 10 (.x 11 (.x 12 (.p 13 .nil) .none) .none) .none))))))))))) (by kernel_rfl) ?_ (by kernel_rfl) ?_); (repeat (with_reducible first | exact PanicFree.body | exact PanicFree.np | exact PanicFree.lvS | apply PanicFree.then_ | apply PanicFree.blk)))
    | ((with_reducible apply J.pl2); exact rfl; (first | exact Gd.none | ((with_reducible apply Gd.on); exact rfl; exact rfl)); (repeat (first | (with_reducible exact PendF.nil) | ((with_reducible apply PendF.keep); exact rfl) | ((with_reducible apply PendF.gone); exact rfl))))
    | ((with_reducible apply J.pl2_off); exact rfl; ((with_reducible apply Gd.off); exact rfl; exact rfl; exact rfl); exact rfl; (repeat (first | (with_reducible exact PendF.nil) | ((with_reducible apply PendF.keep); exact rfl) | ((with_reducible apply PendF.gone); exact rfl))))
    | ((with_reducible apply J.pl2_off_none); exact rfl; ((with_reducible apply Gd.off); exact rfl; exact rfl; exact rfl); (repeat (first | (with_reducible exact PendF.nil) | ((with_reducible apply PendF.keep); exact rfl) | ((with_reducible apply PendF.gone); exact rfl))))
    | ((with_reducible first | apply J.psplit0 | apply J.psplit1 | apply J.psplit2); exact rfl; exact rfl; exact rfl)
    | (with_reducible exact J.pl_none)
    | ((with_reducible apply J.gsplit); exact rfl; exact rfl)
    | ((with_reducible first | apply J.cond | apply JC.cond); exact rfl)
    | (intro h; exfalso; fail)
    | (intro h; (try simp only [decide_eq_true_eq, decide_eq_false_iff_not, beq_iff_eq, beq_eq_false_iff_ne, Bool.not_eq_true', Bool.not_eq_false', bne_iff_ne, bne_eq_false_iff_eq, ne_eq, ge_iff_le, gt_iff_lt] at h))
    | (with_reducible apply J.gave')
    | ((with_reducible apply J.kept'); rotate_left; (repeat (first | (with_reducible exact Outs.nil) | ((with_reducible apply Outs.cons); (repeat (first | with_reducible exact Out.here | with_reducible apply Out.there))))))
  refine J.nilRowC 9 1 (scs ((abv L).take 0)) rfl ?_
  apply J.loopI (σ := (Nat × (Option Addr × Nat))) (I := fun s => (s.1 ≤ m)) (L := fun s => [(0, .slice ao (2 * m) cap), (4, .int .i64 ((2 * s.1 : Nat) : Int)), (3, .slice s.2.1 s.1 s.2.2)]) (HH := fun s => [row (.slice s.2.1 s.1 s.2.2) 9 1 s.1 (scs ((abv L).take s.1))]) (m := fun s => m - s.1) (s0 := (0, (none, 0)))
  · ((try dsimp only); (exact Nat.zero_le _))
  · ((try dsimp only); repeat (first | exact sub.nil _ | (refine sub.consE rfl ?_ ?_; (first | with_reducible rfl | (fail) | rfl))))
  · ((try dsimp only); (repeat (first | (with_reducible exact Outs.nil) | ((with_reducible apply Outs.cons); (repeat (first | with_reducible exact Out.here | with_reducible apply Out.there))))))
  rintro ⟨k, q⟩ hI
  try dsimp only at hI ⊢
  rcases Nat.lt_or_ge k m with hlt | hge
  · obtain ⟨a, ha⟩ : ∃ a, L[2 * k]? = some a := ⟨_, List.getElem?_eq_getElem (by omega)⟩
    obtain ⟨b, hb⟩ : ∃ b, L[2 * k + 1]? = some b := ⟨_, List.getElem?_eq_getElem (by omega)⟩
    have ha8 := h8 a (List.mem_of_getElem? ha)
    have hb8 := h8 b (List.mem_of_getElem? hb)
    have hts := take_snoc (abv_get ha hb)
    repeat' first
      | (refine J.qv ?_; (with_reducible apply exq); focus (first
        | ((with_reducible apply Qv.indexSrcs (ao := ao) (k := 2 * k)); exact rfl; exact rfl; (focus omega); (focus (constructor <;> omega)); exact hao)
        | ((with_reducible apply Qv.indexSrcs (ao := ao) (k := 2 * k + 1)); exact rfl; exact rfl; (focus omega); (focus (constructor <;> omega)); exact hao)
        | ((with_reducible apply Qv.add); exact rfl; exact rfl; exact wr64 (z := ((2 * (k + 1) : Nat) : Int)) (by omega) (by omega) (by omega))
        | ((with_reducible apply Qv.add); exact rfl; exact rfl; exact wr64 (z := ((2 * k + 1 : Nat) : Int)) (by omega) (by omega) (by omega))))
      | (refine J.qr ?_; (with_reducible apply exq); focus (first
        | ((with_reducible apply Qr.rd1 (C := scs L) (j := (2 * k) * 1)); exact rfl; exact RH.old hr; (rw [Nat.mul_one]; exact scs_get ha))
        | ((with_reducible apply Qr.rd1 (C := scs L) (j := (2 * k + 1) * 1)); exact rfl; exact RH.old hr; (rw [Nat.mul_one]; exact scs_get hb))))
      | (refine J.qo ?_; refine ⟨?_, ?_⟩; focus (first
        | ((with_reducible apply Qr.rd1 (C := scs L) (j := (2 * k) * 1)); exact rfl; exact RH.old hr; (rw [Nat.mul_one]; exact scs_get ha))
        | ((with_reducible apply Qr.rd1 (C := scs L) (j := (2 * k + 1) * 1)); exact rfl; exact RH.old hr; (rw [Nat.mul_one]; exact scs_get hb))))
      | ((with_reducible apply J.appendR (news := [_])); exact rfl; exact rfl; (repeat (first | with_reducible exact Out.here | with_reducible apply Out.there)); exact rfl; exact RH.blk0 (by (repeat (first | with_reducible exact In.here | with_reducible apply In.there))); exact rfl; exact rfl; exact rfl; exact rfl; (simp only [maxLen]; omega); omega; intro _ _)
      | ((with_reducible apply J.givesR (join_ a b)); exact rfl; exact rfl; focus (exact RH.of (by omega)))
      | refine J.one ?_
      | refine J.loudS ?_
      | (refine J.loudQ ?_; intro _ _)
      | (refine J.loudB ?_; intro _)
      | (with_reducible apply J.list)
      | ((with_reducible apply J.draw (id := 5) [0, 0, 0, 6, 14, 0, 0, 64, 224, 480, 1022, 2046, 4095, 8191] (.p 0 (.p 1 (.p 2 (.p 3 (.q 4 (.p 5 (.p 6 (.p 7 (.p 8 (.q 9 (.x 10 (.x 11 (.x 12 (.p 13 .nil) .none) .none) .none))))))))))) (by kernel_rfl) ?_ (by kernel_rfl) ?_); (repeat (with_reducible first | exact PanicFree.body | exact PanicFree.np | exact PanicFree.lvS | apply PanicFree.then_ | apply PanicFree.blk)))
      | ((with_reducible apply J.pl2); exact rfl; (first | exact Gd.none | ((with_reducible apply Gd.on); exact rfl; exact rfl)); (repeat (first | (with_reducible exact PendF.nil) | ((with_reducible apply PendF.keep); exact rfl) | ((with_reducible apply PendF.gone); exact rfl))))
      | ((with_reducible apply J.pl2_off); exact rfl; ((with_reducible apply Gd.off); exact rfl; exact rfl; exact rfl); exact rfl; (repeat (first | (with_reducible exact PendF.nil) | ((with_reducible apply PendF.keep); exact rfl) | ((with_reducible apply PendF.gone); exact rfl))))
      | ((with_reducible apply J.pl2_off_none); exact rfl; ((with_reducible apply Gd.off); exact rfl; exact rfl; exact rfl); (repeat (first | (with_reducible exact PendF.nil) | ((with_reducible apply PendF.keep); exact rfl) | ((with_reducible apply PendF.gone); exact rfl))))
      | ((with_reducible first | apply J.psplit0 | apply J.psplit1 | apply J.psplit2); exact rfl; exact rfl; exact rfl)
      | (with_reducible exact J.pl_none)
      | ((with_reducible apply J.gsplit); exact rfl; exact rfl)
      | ((with_reducible first | apply J.cond | apply JC.cond); exact rfl)
      | (intro h; exfalso; (first | (simp at h; done) | (simp at h; omega) | omega))
      | (intro h; (try simp only [decide_eq_true_eq, decide_eq_false_iff_not, beq_iff_eq, beq_eq_false_iff_ne, Bool.not_eq_true', Bool.not_eq_false', bne_iff_ne, bne_eq_false_iff_eq, ne_eq, ge_iff_le, gt_iff_lt] at h))
      | (with_reducible apply J.gave')
      | ((with_reducible apply J.kept'); rotate_left; (repeat (first | (with_reducible exact Outs.nil) | ((with_reducible apply Outs.cons); (repeat (first | with_reducible exact Out.here | with_reducible apply Out.there))))))
    all_goals
      first
      | (rename_i q9 _
         apply J.reR (E := 9) (v := .slice q9.1 (k + 1) q9.2) (n := k + 1) (C := scs ((abv L).take k) ++ [str (short (a ++ b))]) (v' := .slice q9.1 (k + 1) q9.2) (n' := k + 1) (C' := scs ((abv L).take (k + 1)))
         · (repeat (first | with_reducible exact Upd.here | with_reducible apply Upd.there))
         · rfl
         · rfl
         · (rw [hts, scs_append]; rfl)
         · (apply J.againI (s := (k, q)) (s' := (k + 1, q9)); (focus (omega)); (focus ((try dsimp only); (show k + 1 ≤ m; omega))); (focus (((try dsimp only); repeat (first | exact sub.nil _ | (refine sub.consE rfl ?_ ?_; (first | with_reducible rfl | ((focus (congr 1; omega))) | rfl)))))); ((try dsimp only); (repeat (first | (with_reducible exact Outs.nil) | ((with_reducible apply Outs.cons); (repeat (first | with_reducible exact Out.here | with_reducible apply Out.there))))))))
      | (trace_state; fail)
  · obtain rfl : k = m := by omega
    have htk : (abv L).take k = abv L := List.take_of_length_le (by omega)
    rw [htk]
    repeat' first
      | (refine J.qv ?_; (with_reducible apply exq); focus (first
        | ((with_reducible apply Qv.indexSrcs (ao := ao) (k := 2 * k)); exact rfl; exact rfl; (focus omega); (focus (constructor <;> omega)); exact hao)
        | ((with_reducible apply Qv.indexSrcs (ao := ao) (k := 2 * k + 1)); exact rfl; exact rfl; (focus omega); (focus (constructor <;> omega)); exact hao)
        | ((with_reducible apply Qv.add); exact rfl; exact rfl; exact wr64 (z := ((2 * (k + 1) : Nat) : Int)) (by omega) (by omega) (by omega))
        | ((with_reducible apply Qv.add); exact rfl; exact rfl; exact wr64 (z := ((2 * k + 1 : Nat) : Int)) (by omega) (by omega) (by omega))))
      | (refine J.qr ?_; (with_reducible apply exq); focus (first
        | ((with_reducible apply Qr.rd1 (C := scs L) (j := (2 * k) * 1)); exact rfl; exact RH.old hr; (rw [Nat.mul_one]; exact scs_get ha))
        | ((with_reducible apply Qr.rd1 (C := scs L) (j := (2 * k + 1) * 1)); exact rfl; exact RH.old hr; (rw [Nat.mul_one]; exact scs_get hb))))
      | (refine J.qo ?_; refine ⟨?_, ?_⟩; focus (first
        | ((with_reducible apply Qr.rd1 (C := scs L) (j := (2 * k) * 1)); exact rfl; exact RH.old hr; (rw [Nat.mul_one]; exact scs_get ha))
        | ((with_reducible apply Qr.rd1 (C := scs L) (j := (2 * k + 1) * 1)); exact rfl; exact RH.old hr; (rw [Nat.mul_one]; exact scs_get hb))))
      | ((with_reducible apply J.appendR (news := [_])); exact rfl; exact rfl; (repeat (first | with_reducible exact Out.here | with_reducible apply Out.there)); exact rfl; exact RH.blk0 (by (repeat (first | with_reducible exact In.here | with_reducible apply In.there))); exact rfl; exact rfl; exact rfl; exact rfl; (simp only [maxLen]; omega); omega; intro _ _)
      | ((with_reducible apply J.givesR (join_ a b)); exact rfl; exact rfl; focus (exact RH.of (by omega)))
      | refine J.one ?_
      | refine J.loudS ?_
      | (refine J.loudQ ?_; intro _ _)
      | (refine J.loudB ?_; intro _)
      | (with_reducible apply J.list)
      | ((with_reducible apply J.draw (id := 5) [0, 0, 0, 6, 14, 0, 0, 64, 224, 480, 1022, 2046, 4095, 8191] (.p 0 (.p 1 (.p 2 (.p 3 (.q 4 (.p 5 (.p 6 (.p 7 (.p 8 (.q 9 (.x 10 (.x 11 (.x 12 (.p 13 .nil) .none) .none) .none))))))))))) (by kernel_rfl) ?_ (by kernel_rfl) ?_); (repeat (with_reducible first | exact PanicFree.body | exact PanicFree.np | exact PanicFree.lvS | apply PanicFree.then_ | apply PanicFree.blk)))
      | ((with_reducible apply J.pl2); exact rfl; (first | exact Gd.none | ((with_reducible apply Gd.on); exact rfl; exact rfl)); (repeat (first | (with_reducible exact PendF.nil) | ((with_reducible apply PendF.keep); exact rfl) | ((with_reducible apply PendF.gone); exact rfl))))
      | ((with_reducible apply J.pl2_off); exact rfl; ((with_reducible apply Gd.off); exact rfl; exact rfl; exact rfl); exact rfl; (repeat (first | (with_reducible exact PendF.nil) | ((with_reducible apply PendF.keep); exact rfl) | ((with_reducible apply PendF.gone); exact rfl))))
      | ((with_reducible apply J.pl2_off_none); exact rfl; ((with_reducible apply Gd.off); exact rfl; exact rfl; exact rfl); (repeat (first | (with_reducible exact PendF.nil) | ((with_reducible apply PendF.keep); exact rfl) | ((with_reducible apply PendF.gone); exact rfl))))
      | ((with_reducible first | apply J.psplit0 | apply J.psplit1 | apply J.psplit2); exact rfl; exact rfl; exact rfl)
      | (with_reducible exact J.pl_none)
      | ((with_reducible apply J.gsplit); exact rfl; exact rfl)
      | ((with_reducible first | apply J.cond | apply JC.cond); exact rfl)
      | (intro h; exfalso; (first | (simp at h; done) | (simp at h; omega) | omega))
      | (intro h; (try simp only [decide_eq_true_eq, decide_eq_false_iff_not, beq_iff_eq, beq_eq_false_iff_ne, Bool.not_eq_true', Bool.not_eq_false', bne_iff_ne, bne_eq_false_iff_eq, ne_eq, ge_iff_le, gt_iff_lt] at h))
      | (with_reducible apply J.gave')
      | ((with_reducible apply J.kept'); rotate_left; (repeat (first | (with_reducible exact Outs.nil) | ((with_reducible apply Outs.cons); (repeat (first | with_reducible exact Out.here | with_reducible apply Out.there))))))
    all_goals
      first
      | ((with_reducible apply J.freshRow); (repeat (first | with_reducible exact Out.here | with_reducible apply Out.there)); exact rfl; exact rfl; exact rfl)
      | (trace_state; fail)
theorem rowL_le (seed : List UInt8) : ∀ x, x ∈ rowL seed → x.length ≤ 8 := by
  intro x hx
  simp only [rowL, List.mem_map] at hx
  obtain ⟨i, _, rfl⟩ := hx
  exact Nat.le_of_eq (pubF_length _ _)
theorem top_get (seed : List UInt8) : (scs (abv (abv (abv (rowL seed)))))[0]? = some (str (rootF seed)) := rfl
theorem top_pos (seed : List UInt8) : 0 < (scs (abv (abv (abv (rowL seed))))).length := (List.getElem?_eq_some_iff.1 (top_get seed)).1
theorem root_ (seed : List UInt8) (w : World) (hw : seed.length ≤ 1000) : CSpec Try.prog 27 [str seed] [] w (Gives (str (rootF seed))) := by
  refine spec_own0 Try.func27 rfl Try.ntmps27 rfl (l0 := [(0, str seed)]) rfl ?_
  repeat' first
    | (with_reducible refine J.rounds 4 ?_)
    | (with_reducible apply J.round)
    | (refine J.qr ?_; (with_reducible apply exq); focus (first
      | ((with_reducible apply Qr.indexRd (k := 0) (C := scs (abv (abv (abv (rowL seed)))))); exact rfl; exact rfl; exact rfl; decide; exact RH.row (by (repeat (first | with_reducible exact In.here | with_reducible apply In.there))); exact top_pos seed)
      | ((with_reducible apply Qr.rd1 (C := scs (abv (abv (abv (rowL seed)))))); exact rfl; exact RH.row (by (repeat (first | with_reducible exact In.here | with_reducible apply In.there))); exact top_get seed)))
    | ((with_reducible apply J.freshR (row_ seed)); exact rfl; exact rfl; (focus (exact RH.of hw)); intro _ _)
    | ((with_reducible apply J.freshR (above_ _ _ _ (rowL seed) 4)); exact rfl; exact rfl; (focus (exact RH.and (RH.row (by (repeat (first | with_reducible exact In.here | with_reducible apply In.there)))) (RH.of ⟨rfl, rowL_length _, rowL_le _, by decide, by decide⟩))); intro _ _)
    | ((with_reducible apply J.freshR (above_ _ _ _ (abv (rowL seed)) 2)); exact rfl; exact rfl; (focus (exact RH.and (RH.row (by (repeat (first | with_reducible exact In.here | with_reducible apply In.there)))) (RH.of ⟨rfl, abv_length (m := 4) (rowL_length _), fun x hx => Nat.le_of_eq (abv_le hx), by decide, by decide⟩))); intro _ _)
    | ((with_reducible apply J.freshR (above_ _ _ _ (abv (abv (rowL seed))) 1)); exact rfl; exact rfl; (focus (exact RH.and (RH.row (by (repeat (first | with_reducible exact In.here | with_reducible apply In.there)))) (RH.of ⟨rfl, abv_length (m := 2) (abv_length (m := 4) (rowL_length _)), fun x hx => Nat.le_of_eq (abv_le hx), by decide, by decide⟩))); intro _ _)
    | refine J.one ?_
    | refine J.loudS ?_
    | (refine J.loudQ ?_; intro _ _)
    | (refine J.loudB ?_; intro _)
    | (with_reducible apply J.list)
    | ((with_reducible apply J.gsplit); exact rfl; exact rfl)
    | ((with_reducible first | apply J.cond | apply JC.cond); exact rfl)
    | (intro h; exfalso; (first | (revert h; decide) | (simp at h; done)))
    | (intro h; (try simp only [decide_eq_true_eq, decide_eq_false_iff_not, beq_iff_eq, beq_eq_false_iff_ne, Bool.not_eq_true', Bool.not_eq_false', bne_iff_ne, bne_eq_false_iff_eq, ne_eq, ge_iff_le, gt_iff_lt] at h))
    | (with_reducible apply J.gave')
    | ((with_reducible apply J.kept'); rotate_left; (repeat (first | (with_reducible exact Outs.nil) | ((with_reducible apply Outs.cons); (repeat (first | with_reducible exact Out.here | with_reducible apply Out.there))))))
  all_goals (rfl)
end Go.Proofs.Ytfcaeifpclpnoaa.Mrt
