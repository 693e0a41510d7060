/-
  A user: what each of the laws begins with; the law ClientFees. No conditions.
-/
import Derived.Test.YtfcaeifpclpnoaaQMrt
import Derived.Test.YtfcaeifpclpnoaaQCmp
namespace Go.Proofs.Ytfcaeifpclpnoaa.Mrr
open Go Go.RowKit Eng
set_option linter.unusedVariables false
set_option maxRecDepth 100000
set_option linter.unusedSimpArgs false
open Sha Iter Hash Bytes Hsum Ots Rsum Rovr Mrt
set_option maxHeartbeats 1000000
theorem rwalk_ (s : List UInt8) (k : Nat) (w : World) (hw : k ≤ 3 ∧ s.length ≤ 1099511620000) : CSpec Try.prog 117 [str s, .int .i64 (k : Int)] [] w (Gives (str (wk s k))) := by
  obtain ⟨h3, hl⟩ := hw
  refine spec_own0 Try.func117 rfl Try.ntmps117 rfl (l0 := [(0, str s), (1, .int .i64 (k : Int))]) rfl ?_
  repeat' first
    | ((with_reducible apply J.givesR (rshort (wk s i))); exact rfl; exact rfl; focus (exact RH.of (by omega)))
    | refine J.one ?_
    | refine J.loudS ?_
    | (refine J.loudQ ?_; intro _ _)
    | (refine J.loudB ?_; intro _)
    | (with_reducible apply J.list)
    | ((with_reducible apply J.gsplit); exact rfl; exact rfl)
    | ((with_reducible first | apply J.cond | apply JC.cond); exact rfl)
    | (intro h; exfalso; (first | (simp at h; done) | (simp at h; omega) | omega))
    | (intro h; (try simp only [decide_eq_true_eq, decide_eq_false_iff_not, beq_iff_eq, beq_eq_false_iff_ne, Bool.not_eq_true', Bool.not_eq_false', bne_iff_ne, bne_eq_false_iff_eq, ne_eq, ge_iff_le, gt_iff_lt] at h))
    | (with_reducible apply J.gave')
    | ((with_reducible apply J.kept'); rotate_left; (repeat (first | (with_reducible exact Outs.nil) | ((with_reducible apply Outs.cons); (repeat (first | with_reducible exact Out.here | with_reducible apply Out.there))))))
  apply J.loopI (σ := Nat) (I := fun q => (q ≤ k)) (L := fun q => [(0, str (wk s q)), (1, .int .i64 (k : Int)), (5, .int .i64 (q : Int))]) (HH := fun q => []) (m := fun q => k - q) (s0 := 0)
  · ((try dsimp only); (exact Nat.zero_le _))
  · ((try dsimp only); repeat (first | exact sub.nil _ | (refine sub.consE rfl ?_ ?_; (first | with_reducible rfl | (fail) | rfl))))
  · ((try dsimp only); (repeat (first | (with_reducible exact Outs.nil) | ((with_reducible apply Outs.cons); (repeat (first | with_reducible exact Out.here | with_reducible apply Out.there))))))
  rintro i hI
  try dsimp only at hI ⊢
  have hwl := wk_le hl (by omega) i
  repeat' first
    | ((with_reducible apply J.givesR (rshort (wk s i))); exact rfl; exact rfl; focus (exact RH.of (by omega)))
    | refine J.one ?_
    | refine J.loudS ?_
    | (refine J.loudQ ?_; intro _ _)
    | (refine J.loudB ?_; intro _)
    | (with_reducible apply J.list)
    | ((with_reducible apply J.gsplit); exact rfl; exact rfl)
    | ((with_reducible first | apply J.cond | apply JC.cond); exact rfl)
    | (intro h; exfalso; (first | (simp at h; done) | (simp at h; omega) | omega))
    | (intro h; (try simp only [decide_eq_true_eq, decide_eq_false_iff_not, beq_iff_eq, beq_eq_false_iff_ne, Bool.not_eq_true', Bool.not_eq_false', bne_iff_ne, bne_eq_false_iff_eq, ne_eq, ge_iff_le, gt_iff_lt] at h))
    | (with_reducible apply J.gave')
    | ((with_reducible apply J.kept'); rotate_left; (repeat (first | (with_reducible exact Outs.nil) | ((with_reducible apply Outs.cons); (repeat (first | with_reducible exact Out.here | with_reducible apply Out.there))))))
  all_goals
    first
    | (have e0 : i = k := by omega
       subst e0
       rfl)
    | (apply J.againI (s := i) (s' := (i + 1)); (focus (omega)); (focus ((try dsimp only); omega)); (focus (((try dsimp only); repeat (first | exact sub.nil _ | (refine sub.consE rfl ?_ ?_; (first | with_reducible rfl | ((focus (congr 1; omega))) | rfl)))))); ((try dsimp only); (repeat (first | (with_reducible exact Outs.nil) | ((with_reducible apply Outs.cons); (repeat (first | with_reducible exact Out.here | with_reducible apply Out.there)))))))
    | (trace_state; fail)
theorem rbegin_ (seed : List UInt8) (leaf : Nat) (hl : leaf ≤ 7) (w : World) (hw : seed.length ≤ 1000) : CSpec Try.prog 116 [str seed, .int .i64 (leaf : Int)] [] w (Fresh 9 1 15 (scs (bgL seed leaf)) []) := by
  refine spec_own0 Try.func116 rfl Try.ntmps116 rfl (l0 := [(0, str seed), (1, .int .i64 (leaf : Int))]) rfl ?_
  repeat' first
    | refine J.one ?_
    | refine J.loudS ?_
    | (refine J.loudQ ?_; intro _ _)
    | (refine J.loudB ?_; intro _)
    | (with_reducible apply J.list)
    | ((with_reducible apply J.draw (id := 6) [0, 0, 0, 4, 12, 30, 0, 64, 192, 448, 1022, 2046, 4094, 8191, 16383] (.p 0 (.p 1 (.p 2 (.p 6 (.p 7 (.x 3 (.q 4 (.p 5 (.x 8 (.q 9 (.p 10 (.x 11 (.x 12 (.x 13 (.p 14 .nil) .none) .none) .none))) .none))) (.x 8 (.q 9 (.x 3 (.q 4 (.p 5 (.p 10 (.x 11 (.x 12 (.x 13 (.p 14 .nil) .none) .none) .none)))) .none)) .none))))))) (by kernel_rfl) ?_ (by kernel_rfl) ?_); (repeat (with_reducible first | exact PanicFree.body | exact PanicFree.np | exact PanicFree.lvS | apply PanicFree.then_ | apply PanicFree.blk)))
    | ((with_reducible apply J.pl2); exact rfl; (first | exact Gd.none | ((with_reducible apply Gd.on); exact rfl; exact rfl)); (repeat (first | (with_reducible exact PendF.nil) | ((with_reducible apply PendF.keep); exact rfl) | ((with_reducible apply PendF.gone); exact rfl))))
    | ((with_reducible apply J.pl2_off); exact rfl; ((with_reducible apply Gd.off); exact rfl; exact rfl; exact rfl); exact rfl; (repeat (first | (with_reducible exact PendF.nil) | ((with_reducible apply PendF.keep); exact rfl) | ((with_reducible apply PendF.gone); exact rfl))))
    | ((with_reducible apply J.pl2_off_none); exact rfl; ((with_reducible apply Gd.off); exact rfl; exact rfl; exact rfl); (repeat (first | (with_reducible exact PendF.nil) | ((with_reducible apply PendF.keep); exact rfl) | ((with_reducible apply PendF.gone); exact rfl))))
    | ((with_reducible first | apply J.psplit0 | apply J.psplit1 | apply J.psplit2); exact rfl; exact rfl; exact rfl)
    | (with_reducible exact J.pl_none)
    | ((with_reducible apply J.gsplit); exact rfl; exact rfl)
    | ((with_reducible first | apply J.cond | apply JC.cond); exact rfl)
    | (intro h; exfalso; fail)
    | (intro h; (try simp only [decide_eq_true_eq, decide_eq_false_iff_not, beq_iff_eq, beq_eq_false_iff_ne, Bool.not_eq_true', Bool.not_eq_false', bne_iff_ne, bne_eq_false_iff_eq, ne_eq, ge_iff_le, gt_iff_lt] at h))
    | (with_reducible apply J.gave')
    | ((with_reducible apply J.kept'); rotate_left; (repeat (first | (with_reducible exact Outs.nil) | ((with_reducible apply Outs.cons); (repeat (first | with_reducible exact Out.here | with_reducible apply Out.there))))))
  refine J.nilRowC 9 1 (scs ((bgL seed leaf).take 0)) rfl ?_
  apply J.loopI (σ := (Nat × (Option Addr × Nat))) (I := fun s => (s.1 ≤ 15)) (L := fun s => [(0, str seed), (1, .int .i64 (imin (imax (leaf : Int) 0) 65535)), (6, .int .i64 (s.1 : Int)), (5, .slice s.2.1 s.1 s.2.2)]) (HH := fun s => [row (.slice s.2.1 s.1 s.2.2) 9 1 s.1 (scs ((bgL seed leaf).take s.1))]) (m := fun s => 15 - s.1) (s0 := (0, (none, 0)))
  · ((try dsimp only); (exact Nat.zero_le _))
  · ((try dsimp only); repeat (first | exact sub.nil _ | (refine sub.consE rfl ?_ ?_; (first | with_reducible rfl | (fail) | rfl))))
  · ((try dsimp only); (repeat (first | (with_reducible exact Outs.nil) | ((with_reducible apply Outs.cons); (repeat (first | with_reducible exact Out.here | with_reducible apply Out.there))))))
  rintro ⟨j, q⟩ hI
  try dsimp only at hI ⊢
  rcases Nat.lt_or_ge j 15 with hlt | hge
  · have hts := take_snoc (bgL_get seed leaf hlt)
    repeat' first
      | (refine J.qv ?_; (with_reducible apply exq); focus (first
        | ((with_reducible apply Qv.conv); exact rfl; exact wj (by omega))
        | ((with_reducible apply Qv.concat); exact rfl; exact rfl; (focus (simp only [List.length_append, num_length, List.length_cons, List.length_nil]; omega)))))
      | (refine J.qr ?_; (with_reducible apply exq); focus (first
        | ((with_reducible apply Qr.toStr); exact rfl; (with_reducible apply RH.row; (repeat (first | with_reducible exact In.here | with_reducible apply In.there))); exact (num_length _ _).symm)
        | ((with_reducible apply Qr.toStr); exact rfl; (exact RH.b1 (x := UInt8.ofNat j) (by (repeat (first | with_reducible exact In.here | with_reducible apply In.there)))); rfl)))
      | (refine J.qo ?_; refine ⟨?_, ?_⟩; focus (first
        | ((with_reducible apply Qr.toStr); exact rfl; (with_reducible apply RH.row; (repeat (first | with_reducible exact In.here | with_reducible apply In.there))); exact (num_length _ _).symm)
        | ((with_reducible apply Qr.toStr); exact rfl; (exact RH.b1 (x := UInt8.ofNat j) (by (repeat (first | with_reducible exact In.here | with_reducible apply In.there)))); rfl)))
      | ((with_reducible apply J.appendR (news := [_])); exact rfl; exact rfl; (repeat (first | with_reducible exact Out.here | with_reducible apply Out.there)); exact rfl; exact RH.blk0 (by (repeat (first | with_reducible exact In.here | with_reducible apply In.there))); exact rfl; exact rfl; exact rfl; exact rfl; (simp only [maxLen]; omega); omega; intro _ _)
      | ((with_reducible apply J.freshR (rnumL leaf hl)); exact rfl; exact rfl; (focus (exact RH.true_)); intro _ _)
      | ((with_reducible apply J.givesR (rshort (seed ++ num leaf 2 ++ [UInt8.ofNat j]))); exact rfl; exact rfl; focus (exact RH.of (by simp [num_length]; omega)))
      | refine J.one ?_
      | refine J.loudS ?_
      | (refine J.loudQ ?_; intro _ _)
      | (refine J.loudB ?_; intro _)
      | (with_reducible apply J.list)
      | ((with_reducible apply J.draw (id := 6) [0, 0, 0, 4, 12, 30, 0, 64, 192, 448, 1022, 2046, 4094, 8191, 16383] (.p 0 (.p 1 (.p 2 (.p 6 (.p 7 (.x 3 (.q 4 (.p 5 (.x 8 (.q 9 (.p 10 (.x 11 (.x 12 (.x 13 (.p 14 .nil) .none) .none) .none))) .none))) (.x 8 (.q 9 (.x 3 (.q 4 (.p 5 (.p 10 (.x 11 (.x 12 (.x 13 (.p 14 .nil) .none) .none) .none)))) .none)) .none))))))) (by kernel_rfl) ?_ (by kernel_rfl) ?_); (repeat (with_reducible first | exact PanicFree.body | exact PanicFree.np | exact PanicFree.lvS | apply PanicFree.then_ | apply PanicFree.blk)))
      | ((with_reducible apply J.pl2); exact rfl; (first | exact Gd.none | ((with_reducible apply Gd.on); exact rfl; exact rfl)); (repeat (first | (with_reducible exact PendF.nil) | ((with_reducible apply PendF.keep); exact rfl) | ((with_reducible apply PendF.gone); exact rfl))))
      | ((with_reducible apply J.pl2_off); exact rfl; ((with_reducible apply Gd.off); exact rfl; exact rfl; exact rfl); exact rfl; (repeat (first | (with_reducible exact PendF.nil) | ((with_reducible apply PendF.keep); exact rfl) | ((with_reducible apply PendF.gone); exact rfl))))
      | ((with_reducible apply J.pl2_off_none); exact rfl; ((with_reducible apply Gd.off); exact rfl; exact rfl; exact rfl); (repeat (first | (with_reducible exact PendF.nil) | ((with_reducible apply PendF.keep); exact rfl) | ((with_reducible apply PendF.gone); exact rfl))))
      | ((with_reducible first | apply J.psplit0 | apply J.psplit1 | apply J.psplit2); exact rfl; exact rfl; exact rfl)
      | (with_reducible exact J.pl_none)
      | ((with_reducible apply J.gsplit); exact rfl; exact rfl)
      | ((with_reducible first | apply J.cond | apply JC.cond); exact rfl)
      | (intro h; exfalso; (first | (simp at h; done) | (simp at h; omega) | omega))
      | (intro h; (try simp only [decide_eq_true_eq, decide_eq_false_iff_not, beq_iff_eq, beq_eq_false_iff_ne, Bool.not_eq_true', Bool.not_eq_false', bne_iff_ne, bne_eq_false_iff_eq, ne_eq, ge_iff_le, gt_iff_lt] at h))
      | (with_reducible apply J.gave')
      | ((with_reducible apply J.kept'); rotate_left; (repeat (first | (with_reducible exact Outs.nil) | ((with_reducible apply Outs.cons); (repeat (first | with_reducible exact Out.here | with_reducible apply Out.there))))))
    all_goals
      first
      | (rename_i q9 _
         apply J.reR (E := 9) (v := .slice q9.1 (j + 1) q9.2) (n := j + 1) (C := scs ((bgL seed leaf).take j) ++ [str (short (seed ++ num leaf 2 ++ [UInt8.ofNat j]))]) (v' := .slice q9.1 (j + 1) q9.2) (n' := j + 1) (C' := scs ((bgL seed leaf).take (j + 1)))
         · (repeat (first | with_reducible exact Upd.here | with_reducible apply Upd.there))
         · rfl
         · rfl
         · (rw [hts, scs_append]; rfl)
         · (apply J.againI (s := (j, q)) (s' := (j + 1, q9)); (focus (omega)); (focus ((try dsimp only); (show j + 1 ≤ 15; omega))); (focus (((try dsimp only); repeat (first | exact sub.nil _ | (refine sub.consE rfl ?_ ?_; (first | with_reducible rfl | ((focus (congr 1; omega))) | rfl)))))); ((try dsimp only); (repeat (first | (with_reducible exact Outs.nil) | ((with_reducible apply Outs.cons); (repeat (first | with_reducible exact Out.here | with_reducible apply Out.there))))))))
      | (trace_state; fail)
  · obtain rfl : j = 15 := by omega
    have htk : (bgL seed leaf).take 15 = bgL seed leaf := List.take_of_length_le (by rw [bgL_length]; exact Nat.le_refl _)
    rw [htk]
    repeat' first
      | refine J.one ?_
      | refine J.loudS ?_
      | (refine J.loudQ ?_; intro _ _)
      | (refine J.loudB ?_; intro _)
      | (with_reducible apply J.list)
      | ((with_reducible apply J.draw (id := 6) [0, 0, 0, 4, 12, 30, 0, 64, 192, 448, 1022, 2046, 4094, 8191, 16383] (.p 0 (.p 1 (.p 2 (.p 6 (.p 7 (.x 3 (.q 4 (.p 5 (.x 8 (.q 9 (.p 10 (.x 11 (.x 12 (.x 13 (.p 14 .nil) .none) .none) .none))) .none))) (.x 8 (.q 9 (.x 3 (.q 4 (.p 5 (.p 10 (.x 11 (.x 12 (.x 13 (.p 14 .nil) .none) .none) .none)))) .none)) .none))))))) (by kernel_rfl) ?_ (by kernel_rfl) ?_); (repeat (with_reducible first | exact PanicFree.body | exact PanicFree.np | exact PanicFree.lvS | apply PanicFree.then_ | apply PanicFree.blk)))
      | ((with_reducible apply J.pl2); exact rfl; (first | exact Gd.none | ((with_reducible apply Gd.on); exact rfl; exact rfl)); (repeat (first | (with_reducible exact PendF.nil) | ((with_reducible apply PendF.keep); exact rfl) | ((with_reducible apply PendF.gone); exact rfl))))
      | ((with_reducible apply J.pl2_off); exact rfl; ((with_reducible apply Gd.off); exact rfl; exact rfl; exact rfl); exact rfl; (repeat (first | (with_reducible exact PendF.nil) | ((with_reducible apply PendF.keep); exact rfl) | ((with_reducible apply PendF.gone); exact rfl))))
      | ((with_reducible apply J.pl2_off_none); exact rfl; ((with_reducible apply Gd.off); exact rfl; exact rfl; exact rfl); (repeat (first | (with_reducible exact PendF.nil) | ((with_reducible apply PendF.keep); exact rfl) | ((with_reducible apply PendF.gone); exact rfl))))
      | ((with_reducible first | apply J.psplit0 | apply J.psplit1 | apply J.psplit2); exact rfl; exact rfl; exact rfl)
      | (with_reducible exact J.pl_none)
      | ((with_reducible apply J.gsplit); exact rfl; exact rfl)
      | ((with_reducible first | apply J.cond | apply JC.cond); exact rfl)
      | (intro h; exfalso; (first | (simp at h; done) | (simp at h; omega) | omega))
      | (intro h; (try simp only [decide_eq_true_eq, decide_eq_false_iff_not, beq_iff_eq, beq_eq_false_iff_ne, Bool.not_eq_true', Bool.not_eq_false', bne_iff_ne, bne_eq_false_iff_eq, ne_eq, ge_iff_le, gt_iff_lt] at h))
      | (with_reducible apply J.gave')
      | ((with_reducible apply J.kept'); rotate_left; (repeat (first | (with_reducible exact Outs.nil) | ((with_reducible apply Outs.cons); (repeat (first | with_reducible exact Out.here | with_reducible apply Out.there))))))
    all_goals
      first
      | ((with_reducible apply J.freshRow); (repeat (first | with_reducible exact Out.here | with_reducible apply Out.there)); exact rfl; exact rfl; exact rfl)
      | (trace_state; fail)
def wkL (seed : List UInt8) (leaf : Nat) : List (List UInt8) := (bgL seed leaf).map fun p => wk p 3
theorem wkL_get (seed : List UInt8) (leaf : Nat) {j : Nat} (h : j < 15) : (wkL seed leaf)[j]? = some (wk (bgn seed leaf j) 3) := by
  unfold wkL
  rw [List.getElem?_map, bgL_get seed leaf h]
  rfl
theorem wkL_length (seed : List UInt8) (leaf : Nat) : (wkL seed leaf).length = 15 := by simp [wkL, bgL]
theorem wkL_flat (seed : List UInt8) (leaf i : Nat) : ((wkL seed leaf).take i).flatten.length ≤ 120 := by
  have h1 := flat_max (m := 8) (L := (wkL seed leaf).take i) fun x hx => by
    have h2 := List.mem_of_mem_take hx
    simp only [wkL, List.mem_map] at h2
    obtain ⟨p, hp, rfl⟩ := h2
    exact wk_le (bgL_le _ _ p hp) (Nat.le_refl _) 3
  have h2 : ((wkL seed leaf).take i).length ≤ 15 := by rw [List.length_take, wkL_length]; omega
  omega
theorem wkL_step (seed : List UInt8) (leaf : Nat) {j : Nat} (h : j < 15) : ((wkL seed leaf).take j).flatten ++ wk (bgn seed leaf j) 3 = ((wkL seed leaf).take (j + 1)).flatten := by
  rw [take_snoc (wkL_get seed leaf h), List.flatten_append]
  simp
theorem wkL_all (seed : List UInt8) (leaf : Nat) : short ((wkL seed leaf).take 15).flatten = pubF seed leaf := by
  rw [List.take_of_length_le (by rw [wkL_length]; exact Nat.le_refl _)]
  rfl
theorem bgL_str (seed : List UInt8) (leaf : Nat) {j : Nat} (h : j < 15) : (scs (bgL seed leaf))[j]? = some (str (bgn seed leaf j)) := scs_get (bgL_get seed leaf h)
theorem rpublic_ (seed : List UInt8) (leaf : Nat) (hl : leaf ≤ 7) (w : World) (hw : seed.length ≤ 1000) : CSpec Try.prog 91 [str seed, .int .i64 (leaf : Int)] [] w (Gives (str (pubF seed leaf))) := by
  refine spec_own0 Try.func91 rfl Try.ntmps91 rfl (l0 := [(0, str seed), (1, .int .i64 (leaf : Int))]) rfl ?_
  repeat' first
    | ((with_reducible apply J.freshR (rbegin_ seed leaf hl)); exact rfl; exact rfl; (focus (exact RH.of hw)); intro _ _)
    | refine J.one ?_
    | refine J.loudS ?_
    | (refine J.loudQ ?_; intro _ _)
    | (refine J.loudB ?_; intro _)
    | (with_reducible apply J.list)
    | ((with_reducible apply J.gsplit); exact rfl; exact rfl)
    | ((with_reducible first | apply J.cond | apply JC.cond); exact rfl)
    | (intro h; exfalso; fail)
    | (intro h; (try simp only [decide_eq_true_eq, decide_eq_false_iff_not, beq_iff_eq, beq_eq_false_iff_ne, Bool.not_eq_true', Bool.not_eq_false', bne_iff_ne, bne_eq_false_iff_eq, ne_eq, ge_iff_le, gt_iff_lt] at h))
    | (with_reducible apply J.gave')
    | ((with_reducible apply J.kept'); rotate_left; (repeat (first | (with_reducible exact Outs.nil) | ((with_reducible apply Outs.cons); (repeat (first | with_reducible exact Out.here | with_reducible apply Out.there))))))
  rename_i q0 _
  apply J.loopI (σ := Nat) (I := fun s => (s ≤ 15)) (L := fun s => [(5, .slice q0.1 15 q0.2), (6, str ((wkL seed leaf).take s).flatten), (7, .int .i64 (s : Int))]) (HH := fun s => [row (.slice q0.1 15 q0.2) 9 1 15 (scs (bgL seed leaf))]) (m := fun s => 15 - s) (s0 := 0)
  · ((try dsimp only); (exact Nat.zero_le _))
  · ((try dsimp only); repeat (first | exact sub.nil _ | (refine sub.consE rfl ?_ ?_; (first | with_reducible rfl | (rfl) | rfl))))
  · ((try dsimp only); (repeat (first | (with_reducible exact Outs.nil) | ((with_reducible apply Outs.cons); (repeat (first | with_reducible exact Out.here | with_reducible apply Out.there))))))
  rintro i hI
  try dsimp only at hI ⊢
  have hfl := wkL_flat seed leaf i
  rcases Nat.lt_or_ge i 15 with hlt | hge
  · have hts := wkL_step seed leaf hlt
    have hwk : (wk (bgn seed leaf i) 3).length = 8 := wk8 (short_length _) 3
    repeat' first
      | (refine J.qv ?_; (with_reducible apply exq); focus (first
        | ((with_reducible apply Qv.concat); exact rfl; exact rfl; (focus (omega)))))
      | (refine J.qr ?_; (with_reducible apply exq); focus (first
        | ((with_reducible apply Qr.indexRd (k := i) (C := scs (bgL seed leaf))); exact rfl; exact rfl; exact rfl; omega; exact RH.row (by (repeat (first | with_reducible exact In.here | with_reducible apply In.there))); (rw [scs_length, bgL_length]; omega))
        | ((with_reducible apply Qr.rd1 (C := scs (bgL seed leaf)) (j := i * 1)); exact rfl; exact RH.row (by (repeat (first | with_reducible exact In.here | with_reducible apply In.there))); (rw [Nat.mul_one]; exact bgL_str seed leaf (by omega)))))
      | ((with_reducible apply J.givesR (rwalk_ (bgn seed leaf i) 3)); exact rfl; exact rfl; focus (exact RH.of ⟨by omega, by rw [show (bgn seed leaf i).length = 8 from short_length _]; omega⟩))
      | refine J.one ?_
      | refine J.loudS ?_
      | (refine J.loudQ ?_; intro _ _)
      | (refine J.loudB ?_; intro _)
      | (with_reducible apply J.list)
      | ((with_reducible apply J.gsplit); exact rfl; exact rfl)
      | ((with_reducible first | apply J.cond | apply JC.cond); exact rfl)
      | (intro h; exfalso; (first | (simp at h; done) | (simp at h; omega) | omega))
      | (intro h; (try simp only [decide_eq_true_eq, decide_eq_false_iff_not, beq_iff_eq, beq_eq_false_iff_ne, Bool.not_eq_true', Bool.not_eq_false', bne_iff_ne, bne_eq_false_iff_eq, ne_eq, ge_iff_le, gt_iff_lt] at h))
      | (with_reducible apply J.gave')
      | ((with_reducible apply J.kept'); rotate_left; (repeat (first | (with_reducible exact Outs.nil) | ((with_reducible apply Outs.cons); (repeat (first | with_reducible exact Out.here | with_reducible apply Out.there))))))
    all_goals
      first
      | (apply J.againI (s := i) (s' := (i + 1)); (focus (omega)); (focus ((try dsimp only); (show i + 1 ≤ 15; omega))); (focus (((try dsimp only); repeat (first | exact sub.nil _ | (refine sub.consE rfl ?_ ?_; (first | with_reducible rfl | ((focus (first | (congr 1; omega) | (rw [← hts]; done) | (rw [← hts]; rfl)))) | rfl)))))); ((try dsimp only); (repeat (first | (with_reducible exact Outs.nil) | ((with_reducible apply Outs.cons); (repeat (first | with_reducible exact Out.here | with_reducible apply Out.there)))))))
      | (trace_state; fail)
  · obtain rfl : i = 15 := by omega
    repeat' first
      | ((with_reducible apply J.givesR (rshort ((wkL seed leaf).take 15).flatten)); exact rfl; exact rfl; focus (exact RH.of (by omega)))
      | refine J.one ?_
      | refine J.loudS ?_
      | (refine J.loudQ ?_; intro _ _)
      | (refine J.loudB ?_; intro _)
      | (with_reducible apply J.list)
      | ((with_reducible apply J.gsplit); exact rfl; exact rfl)
      | ((with_reducible first | apply J.cond | apply JC.cond); exact rfl)
      | (intro h; exfalso; (first | (simp at h; done) | (simp at h; omega) | omega))
      | (intro h; (try simp only [decide_eq_true_eq, decide_eq_false_iff_not, beq_iff_eq, beq_eq_false_iff_ne, Bool.not_eq_true', Bool.not_eq_false', bne_iff_ne, bne_eq_false_iff_eq, ne_eq, ge_iff_le, gt_iff_lt] at h))
      | (with_reducible apply J.gave')
      | ((with_reducible apply J.kept'); rotate_left; (repeat (first | (with_reducible exact Outs.nil) | ((with_reducible apply Outs.cons); (repeat (first | with_reducible exact Out.here | with_reducible apply Out.there))))))
    all_goals
      first
      | (simp only [retv]; rw [wkL_all]; done)
      | (trace_state; fail)
theorem rrow1 (seed : List UInt8) (i : Nat) (hi : i ≤ 7) (w : World) (hw : seed.length ≤ 1000) : CSpec Try.prog 55 [str seed, .int .i64 (i : Int), .int .i64 1] [] w (Gives (str (pubF seed i))) := by
  refine spec_own0 Try.func55 rfl Try.ntmps55 rfl (l0 := [(0, str seed), (1, .int .i64 (i : Int)), (2, .int .i64 1)]) rfl ?_
  repeat' first
    | ((with_reducible apply J.givesR (rpublic_ seed i hi)); exact rfl; exact rfl; focus (exact RH.of hw))
    | refine J.one ?_
    | refine J.loudS ?_
    | (refine J.loudQ ?_; intro _ _)
    | (refine J.loudB ?_; intro _)
    | (with_reducible apply J.list)
    | ((with_reducible apply J.gsplit); exact rfl; exact rfl)
    | ((with_reducible first | apply J.cond | apply JC.cond); exact rfl)
    | (intro h; exfalso; (simp at h; done))
    | (intro h; (try simp only [decide_eq_true_eq, decide_eq_false_iff_not, beq_iff_eq, beq_eq_false_iff_ne, Bool.not_eq_true', Bool.not_eq_false', bne_iff_ne, bne_eq_false_iff_eq, ne_eq, ge_iff_le, gt_iff_lt] at h))
    | (with_reducible apply J.gave')
    | ((with_reducible apply J.kept'); rotate_left; (repeat (first | (with_reducible exact Outs.nil) | ((with_reducible apply Outs.cons); (repeat (first | with_reducible exact Out.here | with_reducible apply Out.there))))))
  all_goals (rfl)
theorem rrow2 (seed : List UInt8) (i : Nat) (hi : i + 2 ≤ 8) (w : World) (hw : seed.length ≤ 1000) : CSpec Try.prog 55 [str seed, .int .i64 (i : Int), .int .i64 2] [] w (Gives (str (r2F seed i))) := by
  refine spec_own0 Try.func55 rfl Try.ntmps55 rfl (l0 := [(0, str seed), (1, .int .i64 (i : Int)), (2, .int .i64 2)]) rfl ?_
  repeat' first
    | (refine J.qv ?_; (with_reducible apply exq); focus (first
      | ((with_reducible apply Qv.quo); exact rfl; exact rfl; decide; exact (show IntKind.i64.wrap (Int.tdiv 2 2) = 1 by decide))
      | ((with_reducible apply Qv.add); exact rfl; exact rfl; exact wr64 (z := ((i + 1 : Nat) : Int)) (by omega) (by omega) (by omega))
      | ((with_reducible apply Qv.concat); exact rfl; exact rfl; (focus (rw [pubF_length, pubF_length]; omega)))))
    | ((with_reducible apply J.givesR (rrow1 seed i (by omega))); exact rfl; exact rfl; focus (exact RH.of hw))
    | ((with_reducible apply J.givesR (rrow1 seed (i + 1) (by omega))); exact rfl; exact rfl; focus (exact RH.of hw))
    | ((with_reducible apply J.givesR (rshort (pubF seed i ++ pubF seed (i + 1)))); exact rfl; exact rfl; focus (exact RH.of (by rw [List.length_append, pubF_length, pubF_length]; omega)))
    | refine J.one ?_
    | refine J.loudS ?_
    | (refine J.loudQ ?_; intro _ _)
    | (refine J.loudB ?_; intro _)
    | (with_reducible apply J.list)
    | ((with_reducible apply J.gsplit); exact rfl; exact rfl)
    | ((with_reducible first | apply J.cond | apply JC.cond); exact rfl)
    | (intro h; exfalso; (simp at h; done))
    | (intro h; (try simp only [decide_eq_true_eq, decide_eq_false_iff_not, beq_iff_eq, beq_eq_false_iff_ne, Bool.not_eq_true', Bool.not_eq_false', bne_iff_ne, bne_eq_false_iff_eq, ne_eq, ge_iff_le, gt_iff_lt] at h))
    | (with_reducible apply J.gave')
    | ((with_reducible apply J.kept'); rotate_left; (repeat (first | (with_reducible exact Outs.nil) | ((with_reducible apply Outs.cons); (repeat (first | with_reducible exact Out.here | with_reducible apply Out.there))))))
  all_goals (rfl)
theorem r2F_length (seed : List UInt8) (i : Nat) : (r2F seed i).length = 8 := short_length _
theorem rrow4 (seed : List UInt8) (i : Nat) (hi : i + 4 ≤ 8) (w : World) (hw : seed.length ≤ 1000) : CSpec Try.prog 55 [str seed, .int .i64 (i : Int), .int .i64 4] [] w (Gives (str (r4F seed i))) := by
  refine spec_own0 Try.func55 rfl Try.ntmps55 rfl (l0 := [(0, str seed), (1, .int .i64 (i : Int)), (2, .int .i64 4)]) rfl ?_
  repeat' first
    | (refine J.qv ?_; (with_reducible apply exq); focus (first
      | ((with_reducible apply Qv.quo); exact rfl; exact rfl; decide; exact (show IntKind.i64.wrap (Int.tdiv 4 2) = 2 by decide))
      | ((with_reducible apply Qv.add); exact rfl; exact rfl; exact wr64 (z := ((i + 2 : Nat) : Int)) (by omega) (by omega) (by omega))
      | ((with_reducible apply Qv.concat); exact rfl; exact rfl; (focus (rw [r2F_length, r2F_length]; omega)))))
    | ((with_reducible apply J.givesR (rrow2 seed i (by omega))); exact rfl; exact rfl; focus (exact RH.of hw))
    | ((with_reducible apply J.givesR (rrow2 seed (i + 2) (by omega))); exact rfl; exact rfl; focus (exact RH.of hw))
    | ((with_reducible apply J.givesR (rshort (r2F seed i ++ r2F seed (i + 2)))); exact rfl; exact rfl; focus (exact RH.of (by rw [List.length_append, r2F_length, r2F_length]; omega)))
    | refine J.one ?_
    | refine J.loudS ?_
    | (refine J.loudQ ?_; intro _ _)
    | (refine J.loudB ?_; intro _)
    | (with_reducible apply J.list)
    | ((with_reducible apply J.gsplit); exact rfl; exact rfl)
    | ((with_reducible first | apply J.cond | apply JC.cond); exact rfl)
    | (intro h; exfalso; (simp at h; done))
    | (intro h; (try simp only [decide_eq_true_eq, decide_eq_false_iff_not, beq_iff_eq, beq_eq_false_iff_ne, Bool.not_eq_true', Bool.not_eq_false', bne_iff_ne, bne_eq_false_iff_eq, ne_eq, ge_iff_le, gt_iff_lt] at h))
    | (with_reducible apply J.gave')
    | ((with_reducible apply J.kept'); rotate_left; (repeat (first | (with_reducible exact Outs.nil) | ((with_reducible apply Outs.cons); (repeat (first | with_reducible exact Out.here | with_reducible apply Out.there))))))
  all_goals (rfl)
theorem r4F_length (seed : List UInt8) (i : Nat) : (r4F seed i).length = 8 := short_length _
theorem rrow8 (seed : List UInt8) (w : World) (hw : seed.length ≤ 1000) : CSpec Try.prog 55 [str seed, .int .i64 0, .int .i64 8] [] w (Gives (str (rootF seed))) := by
  refine spec_own0 Try.func55 rfl Try.ntmps55 rfl (l0 := [(0, str seed), (1, .int .i64 0), (2, .int .i64 8)]) rfl ?_
  repeat' first
    | (refine J.qv ?_; (with_reducible apply exq); focus (first
      | ((with_reducible apply Qv.quo); exact rfl; exact rfl; decide; exact (show IntKind.i64.wrap (Int.tdiv 8 2) = 4 by decide))
      | ((with_reducible apply Qv.concat); exact rfl; exact rfl; (focus (rw [r4F_length, r4F_length]; omega)))))
    | ((with_reducible apply J.givesR (rrow4 seed 0 (by omega))); exact rfl; exact rfl; focus (exact RH.of hw))
    | ((with_reducible apply J.givesR (rrow4 seed 4 (by omega))); exact rfl; exact rfl; focus (exact RH.of hw))
    | ((with_reducible apply J.givesR (rshort (r4F seed 0 ++ r4F seed 4))); exact rfl; exact rfl; focus (exact RH.of (by rw [List.length_append, r4F_length, r4F_length]; omega)))
    | refine J.one ?_
    | refine J.loudS ?_
    | (refine J.loudQ ?_; intro _ _)
    | (refine J.loudB ?_; intro _)
    | (with_reducible apply J.list)
    | ((with_reducible apply J.gsplit); exact rfl; exact rfl)
    | ((with_reducible first | apply J.cond | apply JC.cond); exact rfl)
    | (intro h; exfalso; (simp at h; done))
    | (intro h; (try simp only [decide_eq_true_eq, decide_eq_false_iff_not, beq_iff_eq, beq_eq_false_iff_ne, Bool.not_eq_true', Bool.not_eq_false', bne_iff_ne, bne_eq_false_iff_eq, ne_eq, ge_iff_le, gt_iff_lt] at h))
    | (with_reducible apply J.gave')
    | ((with_reducible apply J.kept'); rotate_left; (repeat (first | (with_reducible exact Outs.nil) | ((with_reducible apply Outs.cons); (repeat (first | with_reducible exact Out.here | with_reducible apply Out.there))))))
  all_goals ((first | rfl | (simp only [retv]; rw [root_eq])))
theorem rroot_ (seed : List UInt8) (w : World) (hw : seed.length ≤ 1000) : CSpec Try.prog 24 [str seed] [] w (Gives (str (rootF seed))) := by
  refine spec_own0 Try.func24 rfl Try.ntmps24 rfl (l0 := [(0, str seed)]) rfl ?_
  repeat' first
    | ((with_reducible apply J.givesR (rrow8 seed)); exact rfl; exact rfl; focus (exact RH.of hw))
    | refine J.one ?_
    | refine J.loudS ?_
    | (refine J.loudQ ?_; intro _ _)
    | (refine J.loudB ?_; intro _)
    | (with_reducible apply J.list)
    | ((with_reducible apply J.gsplit); exact rfl; exact rfl)
    | ((with_reducible first | apply J.cond | apply JC.cond); exact rfl)
    | (intro h; exfalso; fail)
    | (intro h; (try simp only [decide_eq_true_eq, decide_eq_false_iff_not, beq_iff_eq, beq_eq_false_iff_ne, Bool.not_eq_true', Bool.not_eq_false', bne_iff_ne, bne_eq_false_iff_eq, ne_eq, ge_iff_le, gt_iff_lt] at h))
    | (with_reducible apply J.gave')
    | ((with_reducible apply J.kept'); rotate_left; (repeat (first | (with_reducible exact Outs.nil) | ((with_reducible apply Outs.cons); (repeat (first | with_reducible exact Out.here | with_reducible apply Out.there))))))
  all_goals (rfl)
end Go.Proofs.Ytfcaeifpclpnoaa.Mrr
namespace Go.Proofs.Ytfcaeifpclpnoaa.Cli
open Go Go.RowKit Eng
set_option linter.unusedVariables false
set_option maxRecDepth 100000
set_option linter.unusedSimpArgs false
open Sha Iter Hash Bytes Hsum Ots Rsum Rovr Mrt Mrr Wide
set_option maxHeartbeats 1000000
/-- A user's parts. -/
def cliC (u d : Int) (rt : List UInt8) (r k : Nat) (ds : Value) (dn : Bool) : List Value := [.int .i64 u, .int .i64 d, str rt, .slice none 0 0, .pointer (some ⟨r, 0, none⟩), .pointer (some ⟨k, 0, none⟩), ds, .bool dn, .bool true, .slice none 0 0, .slice none 0 0, .slice none 0 0]
/-- A room's parts. -/
def roomC (op : Value) : List Value := [.slice none 0 0, op, .bool true]
def diskC (room : Int) : List Value := [.slice none 0 0, .int .i64 0, .int .i64 room, .bool true]
def seedF (u : Nat) : List UInt8 := [117, 115, 101, 114] ++ [UInt8.ofNat u]
def dlF (d : Int) : Int := imin (imax d 1) 4
def rmF (n : Int) : Int := imin (imax n 0) 65536
/-- A new one. -/
def NewC (u : Nat) (d room : Int) : Ending → List Asrt → Prop := fun e H => ∃ p : Nat × Nat × Nat, e = .returned (.tuple #[.pointer (some ⟨p.1, 0, none⟩), .int .i64 0]) ∧ H = [blk p.1 (cliC u (dlF d) (rootF (seedF u)) p.2.1 p.2.2 (.slice none 0 0) false) 76, blk p.2.1 (roomC (.slice none 0 0)) 116, blk p.2.2 (diskC (rmF room)) 118]
section
variable {P : Program} {c : Cx} {l : TL} {H : List Asrt} {Q : Exit → Act → World → Prop} {X : Act → World → Prop}
variable {ty : TypeId} {pos : String} {af : Array Edge} {d : Nat}
theorem J.newC {f : Nat} [i : Eng.Enters P f] {xs : List Operand} {ts : Array TypeId} {vs : List Value} {u : Nat} {dl room : Int} {rt : List UInt8} (hS : ∀ w, CSpec P f vs [] w (NewC u dl room)) (hrt : rootF (seedF u) = rt) (hd : Nat.blt d c.n = true) (hx : evs l xs = some vs)
    (K : ∀ p r k : Nat, J c ((d, .tuple #[.pointer (some ⟨p, 0, none⟩), .int .i64 0]) :: l) (blk p (cliC u (dlF dl) rt r k (.slice none 0 0) false) 76 :: blk r (roomC (.slice none 0 0)) 116 :: blk k (diskC (rmF room)) 118 :: H) X) : J c l H (OW P Q ⟨some d, .call ⟨.value (.func f), xs.toArray, ts⟩, ty, pos, af, none⟩ X) :=
  J.callS hd hx .nil (fun w s => hS w) (fun v' H3 ⟨p, h1, h2⟩ => by
    cases h1; subst h2 hrt
    exact K p.1 p.2.1 p.2.2) (fun ch H3 ⟨b, h1, _⟩ => by cases h1) (fun H3 ⟨b, h1, _⟩ => by cases h1)
theorem J.endNC {u : Nat} {d room : Int} {p r k : Nat} {R : List Asrt} (ho : Outs [blk p (cliC u (dlF d) (rootF (seedF u)) r k (.slice none 0 0) false) 76, blk r (roomC (.slice none 0 0)) 116, blk k (diskC (rmF room)) 118] H R) : J c l H (fun _ w => ∃ H3, NewC u d room (.returned (.tuple #[.pointer (some ⟨p, 0, none⟩), .int .i64 0])) H3 ∧ Sat c.w0 c.own H3 w) :=
  J.post (R := NewC u d room) ⟨(p, r, k), rfl, rfl⟩ ho
end
theorem delay_ (d : Int) (w : World) (hw : True) : CSpec Try.prog 26 [.int .i64 d] [] w (Gives (.int .i64 (dlF d))) := by
  refine spec_own0 Try.func26 rfl Try.ntmps26 rfl (l0 := [(0, .int .i64 d)]) rfl ?_
  repeat' first
    | refine J.one ?_
    | refine J.loudS ?_
    | (refine J.loudQ ?_; intro _ _)
    | (refine J.loudB ?_; intro _)
    | (with_reducible apply J.list)
    | ((with_reducible apply J.gsplit); exact rfl; exact rfl)
    | ((with_reducible first | apply J.cond | apply JC.cond); exact rfl)
    | (intro h; exfalso; (first | (simp at h; done) | (simp at h; omega)))
    | (intro h; (try simp only [decide_eq_true_eq, decide_eq_false_iff_not, beq_iff_eq, beq_eq_false_iff_ne, Bool.not_eq_true', Bool.not_eq_false', bne_iff_ne, bne_eq_false_iff_eq, ne_eq, ge_iff_le, gt_iff_lt] at h))
    | (with_reducible apply J.gave')
    | ((with_reducible apply J.kept'); rotate_left; (repeat (first | (with_reducible exact Outs.nil) | ((with_reducible apply Outs.cons); (repeat (first | with_reducible exact Out.here | with_reducible apply Out.there))))))
  all_goals (rfl)
theorem seed_ (u : Nat) (w : World) (hw : u < 15) : CSpec Try.prog 25 [.int .i64 (u : Int)] [] w (Gives (str (seedF u))) := by
  refine spec_own0 Try.func25 rfl Try.ntmps25 rfl (l0 := [(0, .int .i64 (u : Int))]) rfl ?_
  repeat' first
    | (refine J.qv ?_; (with_reducible apply exq); focus (first
      | ((with_reducible apply Qv.conv); exact rfl; exact wj (by omega))
      | ((with_reducible apply Qv.concat (s := [117, 115, 101, 114]) (t := [UInt8.ofNat u])); exact rfl; exact rfl; (simp only [List.length_cons, List.length_nil]; omega))))
    | (refine J.qr ?_; (with_reducible apply exq); focus (first
      | ((with_reducible apply Qr.toStr); exact rfl; (exact RH.b1 (x := UInt8.ofNat u) (by (repeat (first | with_reducible exact In.here | with_reducible apply In.there)))); rfl)))
    | refine J.one ?_
    | refine J.loudS ?_
    | (refine J.loudQ ?_; intro _ _)
    | (refine J.loudB ?_; intro _)
    | (with_reducible apply J.list)
    | ((with_reducible apply J.gsplit); exact rfl; exact rfl)
    | ((with_reducible first | apply J.cond | apply JC.cond); exact rfl)
    | (intro h; exfalso; fail)
    | (intro h; (try simp only [decide_eq_true_eq, decide_eq_false_iff_not, beq_iff_eq, beq_eq_false_iff_ne, Bool.not_eq_true', Bool.not_eq_false', bne_iff_ne, bne_eq_false_iff_eq, ne_eq, ge_iff_le, gt_iff_lt] at h))
    | (with_reducible apply J.gave')
    | ((with_reducible apply J.kept'); rotate_left; (repeat (first | (with_reducible exact Outs.nil) | ((with_reducible apply Outs.cons); (repeat (first | with_reducible exact Out.here | with_reducible apply Out.there))))))
  all_goals (rfl)
theorem clone0  (w : World) (hw : True) : CSpec Try.prog 28 [.slice none 0 0] [] w (Gives (.slice none 0 0)) := by
  refine spec_own0 Try.func28 rfl Try.ntmps28 rfl (l0 := [(0, .slice none 0 0)]) rfl ?_
  repeat' first
    | refine J.one ?_
    | refine J.loudS ?_
    | (refine J.loudQ ?_; intro _ _)
    | (refine J.loudB ?_; intro _)
    | (with_reducible apply J.list)
    | ((with_reducible apply J.gsplit); exact rfl; exact rfl)
    | ((with_reducible first | apply J.cond | apply JC.cond); exact rfl)
    | (intro h; exfalso; (simp at h; done))
    | (intro h; (try simp only [decide_eq_true_eq, decide_eq_false_iff_not, beq_iff_eq, beq_eq_false_iff_ne, Bool.not_eq_true', Bool.not_eq_false', bne_iff_ne, bne_eq_false_iff_eq, ne_eq, ge_iff_le, gt_iff_lt] at h))
    | (with_reducible apply J.gave')
    | ((with_reducible apply J.kept'); rotate_left; (repeat (first | (with_reducible exact Outs.nil) | ((with_reducible apply Outs.cons); (repeat (first | with_reducible exact Out.here | with_reducible apply Out.there))))))
  all_goals (rfl)
theorem room_  (w : World) (hw : True) : CSpec Try.prog 29 [.slice none 0 0] [] w (FreshP (fun p => [blk p (roomC (.slice none 0 0)) 116])) := by
  refine spec_own0 Try.func29 rfl Try.ntmps29 rfl (l0 := [(0, .slice none 0 0)]) rfl ?_
  repeat' first
    | (refine J.qv ?_; (with_reducible apply exq); focus (first
      | ((with_reducible apply Qv.buildS (T := 116)); exact rfl; (show _ = some (roomC (.slice none 0 0))); kernel_rfl)))
    | ((with_reducible apply J.givesR (clone0)); exact rfl; exact rfl; focus (exact RH.true_))
    | refine J.one ?_
    | refine J.loudS ?_
    | (refine J.loudQ ?_; intro _ _)
    | (refine J.loudB ?_; intro _)
    | (with_reducible apply J.list)
    | ((with_reducible apply J.gsplit); exact rfl; exact rfl)
    | ((with_reducible first | apply J.cond | apply JC.cond); exact rfl)
    | (intro h; exfalso; fail)
    | (intro h; (try simp only [decide_eq_true_eq, decide_eq_false_iff_not, beq_iff_eq, beq_eq_false_iff_ne, Bool.not_eq_true', Bool.not_eq_false', bne_iff_ne, bne_eq_false_iff_eq, ne_eq, ge_iff_le, gt_iff_lt] at h))
    | (with_reducible apply J.gave')
    | ((with_reducible apply J.kept'); rotate_left; (repeat (first | (with_reducible exact Outs.nil) | ((with_reducible apply Outs.cons); (repeat (first | with_reducible exact Out.here | with_reducible apply Out.there))))))
  all_goals ((rename_i p; exact J.post ⟨p, rfl, rfl⟩ (.cons .here .nil)))
theorem disk_ (n : Int) (w : World) (hw : True) : CSpec Try.prog 30 [.int .i64 n] [] w (FreshP (fun p => [blk p (diskC (rmF n)) 118])) := by
  refine spec_own0 Try.func30 rfl Try.ntmps30 rfl (l0 := [(0, .int .i64 n)]) rfl ?_
  repeat' first
    | (refine J.qv ?_; (with_reducible apply exq); focus (first
      | ((with_reducible apply Qv.buildS (T := 118)); exact rfl; (show _ = some (diskC (rmF n))); kernel_rfl)))
    | refine J.one ?_
    | refine J.loudS ?_
    | (refine J.loudQ ?_; intro _ _)
    | (refine J.loudB ?_; intro _)
    | (with_reducible apply J.list)
    | ((with_reducible apply J.gsplit); exact rfl; exact rfl)
    | ((with_reducible first | apply J.cond | apply JC.cond); exact rfl)
    | (intro h; exfalso; fail)
    | (intro h; (try simp only [decide_eq_true_eq, decide_eq_false_iff_not, beq_iff_eq, beq_eq_false_iff_ne, Bool.not_eq_true', Bool.not_eq_false', bne_iff_ne, bne_eq_false_iff_eq, ne_eq, ge_iff_le, gt_iff_lt] at h))
    | (with_reducible apply J.gave')
    | ((with_reducible apply J.kept'); rotate_left; (repeat (first | (with_reducible exact Outs.nil) | ((with_reducible apply Outs.cons); (repeat (first | with_reducible exact Out.here | with_reducible apply Out.there))))))
  all_goals ((rename_i p; exact J.post ⟨p, rfl, rfl⟩ (.cons .here .nil)))
theorem newX (i d n : Int) (hi : i < 0 ∨ 2 ≤ i) (w : World) (hw : True) : CSpec Try.prog 8 [.int .i64 i, .slice none 0 0, .int .i64 d, .int .i64 n] [] w (Gives (.tuple #[.pointer none, .int .i64 4])) := by
  refine spec_own0 Try.func8 rfl Try.ntmps8 rfl (l0 := [(0, .int .i64 i), (1, .slice none 0 0), (2, .int .i64 d), (3, .int .i64 n)]) rfl ?_
  repeat' first
    | fail
    | refine J.one ?_
    | refine J.loudS ?_
    | (refine J.loudQ ?_; intro _ _)
    | (refine J.loudB ?_; intro _)
    | (with_reducible apply J.list)
    | ((with_reducible apply J.gsplit); exact rfl; exact rfl)
    | ((with_reducible first | apply J.cond | apply JC.cond); exact rfl)
    | (intro h; exfalso; (first | (simp at h; done) | (simp at h; omega) | omega))
    | (intro h; (try simp only [decide_eq_true_eq, decide_eq_false_iff_not, beq_iff_eq, beq_eq_false_iff_ne, Bool.not_eq_true', Bool.not_eq_false', bne_iff_ne, bne_eq_false_iff_eq, ne_eq, ge_iff_le, gt_iff_lt] at h))
    | (with_reducible apply J.gave')
    | ((with_reducible apply J.kept'); rotate_left; (repeat (first | (with_reducible exact Outs.nil) | ((with_reducible apply Outs.cons); (repeat (first | with_reducible exact Out.here | with_reducible apply Out.there))))))
  all_goals (rfl)
theorem new_ (u : Nat) (d n : Int) (hu : u ≤ 1) (w : World) (hw : True) : CSpec Try.prog 8 [.int .i64 (u : Int), .slice none 0 0, .int .i64 d, .int .i64 n] [] w (NewC u d n) := by
  refine spec_own0 Try.func8 rfl Try.ntmps8 rfl (l0 := [(0, .int .i64 (u : Int)), (1, .slice none 0 0), (2, .int .i64 d), (3, .int .i64 n)]) rfl ?_
  repeat' first
    | (refine J.qv ?_; (with_reducible apply exq); focus (first
      | ((with_reducible apply Qv.buildS (T := 76)); exact rfl; (show _ = some (cliC (u : Int) (dlF d) (rootF (seedF u)) r9 k9 (.slice none 0 0) false)); kernel_rfl)))
    | ((with_reducible apply J.givesR (delay_ d)); exact rfl; exact rfl; focus (exact RH.true_))
    | ((with_reducible apply J.givesR (seed_ u)); exact rfl; exact rfl; focus (exact RH.of (by omega)))
    | ((with_reducible apply J.givesR (root_ (seedF u))); exact rfl; exact rfl; focus (exact RH.of (by simp [seedF])))
    | ((with_reducible apply J.givesR (clone0)); exact rfl; exact rfl; focus (exact RH.true_))
    | ((with_reducible apply J.newP room_); exact rfl; exact rfl; trivial; intro r9; (try dsimp only [List.cons_append, List.nil_append]))
    | ((with_reducible apply J.newP (disk_ n)); exact rfl; exact rfl; trivial; intro k9; (try dsimp only [List.cons_append, List.nil_append]))
    | refine J.one ?_
    | refine J.loudS ?_
    | (refine J.loudQ ?_; intro _ _)
    | (refine J.loudB ?_; intro _)
    | (with_reducible apply J.list)
    | ((with_reducible apply J.gsplit); exact rfl; exact rfl)
    | ((with_reducible first | apply J.cond | apply JC.cond); exact rfl)
    | (intro h; exfalso; (first | (simp at h; done) | (simp at h; omega) | omega))
    | (intro h; (try simp only [decide_eq_true_eq, decide_eq_false_iff_not, beq_iff_eq, beq_eq_false_iff_ne, Bool.not_eq_true', Bool.not_eq_false', bne_iff_ne, bne_eq_false_iff_eq, ne_eq, ge_iff_le, gt_iff_lt] at h))
    | (with_reducible apply J.gave')
    | ((with_reducible apply J.kept'); rotate_left; (repeat (first | (with_reducible exact Outs.nil) | ((with_reducible apply Outs.cons); (repeat (first | with_reducible exact Out.here | with_reducible apply Out.there))))))
  all_goals ((exact J.endNC (by (repeat (first | (with_reducible exact Outs.nil) | ((with_reducible apply Outs.cons); (repeat (first | with_reducible exact Out.here | with_reducible apply Out.there))))))))
theorem up_ (p : Nat) (u d : Int) (rt : List UInt8) (r k : Nat) (ds : Value) (dn : Bool) (w : World) : CSpec Try.prog 38 [.pointer (some ⟨p, 0, none⟩)] [blk p (cliC u d rt r k ds dn) 76] w (Keeps (.int .i64 (if dn = true then 17 else 0)) [blk p (cliC u d rt r k ds dn) 76]) := by
  refine spec_of Try.func38 rfl Try.ntmps38 rfl (l0 := [(0, .pointer (some ⟨p, 0, none⟩))]) rfl ?_
  intro fp
  repeat' first
    | (refine J.qr ?_; (with_reducible apply exq); focus (first
      | ((with_reducible apply Qr.load1); exact rfl; (focus ((repeat (first | with_reducible exact In.here | with_reducible apply In.there)); done)); exact rfl)))
    | refine J.one ?_
    | refine J.loudS ?_
    | (refine J.loudQ ?_; intro _ _)
    | (refine J.loudB ?_; intro _)
    | (with_reducible apply J.list)
    | ((with_reducible apply J.gsplit); exact rfl; exact rfl)
    | ((with_reducible first | apply J.cond | apply JC.cond); exact rfl)
    | (intro h; exfalso; (first | (simp at h; done) | (simp_all; done)))
    | (intro h; (try simp only [decide_eq_true_eq, decide_eq_false_iff_not, beq_iff_eq, beq_eq_false_iff_ne, Bool.not_eq_true', Bool.not_eq_false', bne_iff_ne, bne_eq_false_iff_eq, ne_eq, ge_iff_le, gt_iff_lt] at h))
    | (with_reducible apply J.gave')
    | ((with_reducible apply J.kept'); rotate_left; (repeat (first | (with_reducible exact Outs.nil) | ((with_reducible apply Outs.cons); (repeat (first | with_reducible exact Out.here | with_reducible apply Out.there))))))
  all_goals ((simp_all [retv]; done))
end Go.Proofs.Ytfcaeifpclpnoaa.Cli
namespace Go.Proofs.Ytfcaeifpclpnoaa.Cfe
open Go Go.RowKit Eng
set_option linter.unusedVariables false
set_option maxRecDepth 100000
set_option linter.unusedSimpArgs false
open Sha Iter Hash Bytes Hsum Ots Rsum Rovr Mrt Mrr Wide Cli
set_option maxHeartbeats 1000000
theorem up0_ (p : Nat) (u d : Int) (rt : List UInt8) (r k : Nat) (ds : Value) (w : World) : CSpec Try.prog 38 [.pointer (some ⟨p, 0, none⟩)] [blk p (cliC u d rt r k ds false) 76] w (Keeps (.int .i64 0) [blk p (cliC u d rt r k ds false) 76]) := by
  refine spec_of Try.func38 rfl Try.ntmps38 rfl (l0 := [(0, .pointer (some ⟨p, 0, none⟩))]) rfl ?_
  intro fp
  repeat' first
    | (refine J.qr ?_; (with_reducible apply exq); focus (first
      | ((with_reducible apply Qr.load1); exact rfl; (focus ((repeat (first | with_reducible exact In.here | with_reducible apply In.there)); done)); exact rfl)))
    | refine J.one ?_
    | refine J.loudS ?_
    | (refine J.loudQ ?_; intro _ _)
    | (refine J.loudB ?_; intro _)
    | (with_reducible apply J.list)
    | ((with_reducible apply J.gsplit); exact rfl; exact rfl)
    | ((with_reducible first | apply J.cond | apply JC.cond); exact rfl)
    | (intro h; exfalso; (first | (simp at h; done) | omega))
    | (intro h; (try simp only [decide_eq_true_eq, decide_eq_false_iff_not, beq_iff_eq, beq_eq_false_iff_ne, Bool.not_eq_true', Bool.not_eq_false', bne_iff_ne, bne_eq_false_iff_eq, ne_eq, ge_iff_le, gt_iff_lt] at h))
    | (with_reducible apply J.gave')
    | ((with_reducible apply J.kept'); rotate_left; (repeat (first | (with_reducible exact Outs.nil) | ((with_reducible apply Outs.cons); (repeat (first | with_reducible exact Out.here | with_reducible apply Out.there))))))
  all_goals (rfl)
theorem down_ (p : Nat) (u d : Int) (rt : List UInt8) (r k : Nat) (ds : Value) (w : World) : CSpec Try.prog 22 [.pointer (some ⟨p, 0, none⟩)] [blk p (cliC u d rt r k ds false) 76] w (Keeps (.bool false) [blk p (cliC u d rt r k ds false) 76]) := by
  refine spec_of Try.func22 rfl Try.ntmps22 rfl (l0 := [(0, .pointer (some ⟨p, 0, none⟩))]) rfl ?_
  intro fp
  repeat' first
    | ((with_reducible apply J.keepsW (up0_ _ _ _ _ _ _ _)); exact rfl; exact rfl; (repeat (first | (with_reducible exact Outs.nil) | ((with_reducible apply Outs.cons); (repeat (first | with_reducible exact Out.here | with_reducible apply Out.there))))))
    | refine J.one ?_
    | refine J.loudS ?_
    | (refine J.loudQ ?_; intro _ _)
    | (refine J.loudB ?_; intro _)
    | (with_reducible apply J.list)
    | ((with_reducible apply J.gsplit); exact rfl; exact rfl)
    | ((with_reducible first | apply J.cond | apply JC.cond); exact rfl)
    | (intro h; exfalso; (first | (simp at h; done) | omega))
    | (intro h; (try simp only [decide_eq_true_eq, decide_eq_false_iff_not, beq_iff_eq, beq_eq_false_iff_ne, Bool.not_eq_true', Bool.not_eq_false', bne_iff_ne, bne_eq_false_iff_eq, ne_eq, ge_iff_le, gt_iff_lt] at h))
    | (with_reducible apply J.gave')
    | ((with_reducible apply J.kept'); rotate_left; (repeat (first | (with_reducible exact Outs.nil) | ((with_reducible apply Outs.cons); (repeat (first | with_reducible exact Out.here | with_reducible apply Out.there))))))
  all_goals (rfl)
theorem croot_ (p : Nat) (u d : Int) (rt : List UInt8) (r k : Nat) (ds : Value) (w : World) : CSpec Try.prog 23 [.pointer (some ⟨p, 0, none⟩)] [blk p (cliC u d rt r k ds false) 76] w (Keeps (str rt) [blk p (cliC u d rt r k ds false) 76]) := by
  refine spec_of Try.func23 rfl Try.ntmps23 rfl (l0 := [(0, .pointer (some ⟨p, 0, none⟩))]) rfl ?_
  intro fp
  repeat' first
    | (refine J.qr ?_; (with_reducible apply exq); focus (first
      | ((with_reducible apply Qr.load1); exact rfl; (focus ((repeat (first | with_reducible exact In.here | with_reducible apply In.there)); done)); exact rfl)))
    | refine J.one ?_
    | refine J.loudS ?_
    | (refine J.loudQ ?_; intro _ _)
    | (refine J.loudB ?_; intro _)
    | (with_reducible apply J.list)
    | ((with_reducible apply J.gsplit); exact rfl; exact rfl)
    | ((with_reducible first | apply J.cond | apply JC.cond); exact rfl)
    | (intro h; exfalso; (first | (simp at h; done) | omega))
    | (intro h; (try simp only [decide_eq_true_eq, decide_eq_false_iff_not, beq_iff_eq, beq_eq_false_iff_ne, Bool.not_eq_true', Bool.not_eq_false', bne_iff_ne, bne_eq_false_iff_eq, ne_eq, ge_iff_le, gt_iff_lt] at h))
    | (with_reducible apply J.gave')
    | ((with_reducible apply J.kept'); rotate_left; (repeat (first | (with_reducible exact Outs.nil) | ((with_reducible apply Outs.cons); (repeat (first | with_reducible exact Out.here | with_reducible apply Out.there))))))
  all_goals (rfl)
/-- A fee. -/
def feeF (n : Int) : Int := if 1 < n then 1 else 0
theorem fee_y {n : Int} (h : 0 < wcmp n 1) : feeF n = 1 := by
  unfold wcmp at h
  unfold feeF
  split at h
  · omega
  · split at h
    · rw [if_pos (by omega)]
    · omega
theorem fee_n {n : Int} (h : ¬ 0 < wcmp n 1) : feeF n = 0 := by
  unfold wcmp at h
  unfold feeF
  split at h
  · rw [if_neg (by omega)]
  · split at h
    · omega
    · rw [if_neg (by omega)]
theorem fee_ (v : Value) (n : Int) (hn : Wd n) (w : World) : CSpec Try.prog 9 [v, .agg (wv n).toArray] [] w (Gives (.agg (wv (feeF n)).toArray)) := by
  refine spec_of Try.func9 rfl Try.ntmps9 rfl (l0 := [(0, v), (1, .agg (wv n).toArray)]) rfl ?_
  intro fp
  repeat' first
    | (refine J.qr ?_; (with_reducible apply exq); focus (first
      | ((with_reducible apply Qr.loadFull); exact rfl; (focus ((repeat (first | with_reducible exact In.here | with_reducible apply In.there)); done)); with_reducible exact wv_length _)))
    | (refine J.qo ?_; refine ⟨?_, ?_⟩; focus (first
      | ((with_reducible apply Qr.loadFull); exact rfl; (focus ((repeat (first | with_reducible exact In.here | with_reducible apply In.there)); done)); with_reducible exact wv_length _)))
    | ((with_reducible apply J.allocW); exact rfl; exact rfl; intro _)
    | ((with_reducible apply J.givesP (Wide.of 1)); exact rfl; exact rfl; (unfold Wo; omega))
    | ((with_reducible apply J.givesP (Cmp.cmp n 1)); exact rfl; exact rfl; (exact ⟨hn, by unfold Wd; omega⟩))
    | refine J.one ?_
    | refine J.loudS ?_
    | (refine J.loudQ ?_; intro _ _)
    | (refine J.loudB ?_; intro _)
    | (with_reducible apply J.list)
    | ((with_reducible apply J.draw (id := 1) [0, 0, 3, 7] (.q 0 (.x 1 (.x 2 (.p 3 .nil) .none) .none)) (by kernel_rfl) ?_ (by kernel_rfl) ?_); (repeat (with_reducible first | exact PanicFree.body | exact PanicFree.np | exact PanicFree.lvS | apply PanicFree.then_ | apply PanicFree.blk)))
    | ((with_reducible apply J.pl2); exact rfl; (first | exact Gd.none | ((with_reducible apply Gd.on); exact rfl; exact rfl)); (repeat (first | (with_reducible exact PendF.nil) | ((with_reducible apply PendF.keep); exact rfl) | ((with_reducible apply PendF.gone); exact rfl))))
    | ((with_reducible apply J.pl2_off); exact rfl; ((with_reducible apply Gd.off); exact rfl; exact rfl; exact rfl); exact rfl; (repeat (first | (with_reducible exact PendF.nil) | ((with_reducible apply PendF.keep); exact rfl) | ((with_reducible apply PendF.gone); exact rfl))))
    | ((with_reducible apply J.pl2_off_none); exact rfl; ((with_reducible apply Gd.off); exact rfl; exact rfl; exact rfl); (repeat (first | (with_reducible exact PendF.nil) | ((with_reducible apply PendF.keep); exact rfl) | ((with_reducible apply PendF.gone); exact rfl))))
    | ((with_reducible first | apply J.psplit0 | apply J.psplit1 | apply J.psplit2); exact rfl; exact rfl; exact rfl)
    | (with_reducible exact J.pl_none)
    | ((with_reducible apply J.gsplit); exact rfl; exact rfl)
    | ((with_reducible first | apply J.cond | apply JC.cond); exact rfl)
    | (intro h; exfalso; (first | (simp at h; done) | omega))
    | (intro h; (try simp only [decide_eq_true_eq, decide_eq_false_iff_not, beq_iff_eq, beq_eq_false_iff_ne, Bool.not_eq_true', Bool.not_eq_false', bne_iff_ne, bne_eq_false_iff_eq, ne_eq, ge_iff_le, gt_iff_lt] at h))
    | (with_reducible apply J.gave')
    | ((with_reducible apply J.kept'); rotate_left; (repeat (first | (with_reducible exact Outs.nil) | ((with_reducible apply Outs.cons); (repeat (first | with_reducible exact Out.here | with_reducible apply Out.there))))))
  all_goals
    first
    | (simp only [retv]; rw [fee_y (by assumption)]; done)
    | (simp only [retv]; rw [fee_n (by assumption)]; rfl)
    | (trace_state; fail)
theorem rroot_c (s R : List UInt8) (h : rootF s = R) (w : World) (hw : s.length ≤ 1000) : CSpec Try.prog 24 [str s] [] w (Gives (str R)) := h ▸ rroot_ s w hw
theorem root8 (s : List UInt8) : ((rootF s).length : Int) = 8 := by rw [rootF_length]; rfl
theorem alive20  (w : World) (hw : True) : CSpec Try.prog 7 [] [] w (Gives (.bool true)) := by
  obtain ⟨R, hR, hl⟩ : ∃ R, rootF (seedF 0) = R ∧ R.length = 8 := ⟨_, rfl, rootF_length _⟩
  refine spec_own0 Try.func7 rfl Try.ntmps7 rfl (l0 := []) rfl ?_
  repeat' first
    | ((with_reducible apply J.givesR (newX 9 1 900 (by omega))); exact rfl; exact rfl; focus (exact RH.true_))
    | ((with_reducible apply J.newC (fun w => new_ 0 1 900 (by omega) w trivial) hR); exact rfl; exact rfl; intro p9 r9 k9)
    | ((with_reducible apply J.keepsW (down_ _ _ _ _ _ _ _)); exact rfl; exact rfl; (repeat (first | (with_reducible exact Outs.nil) | ((with_reducible apply Outs.cons); (repeat (first | with_reducible exact Out.here | with_reducible apply Out.there))))))
    | ((with_reducible apply J.keepsW (croot_ _ _ _ _ _ _ _)); exact rfl; exact rfl; (repeat (first | (with_reducible exact Outs.nil) | ((with_reducible apply Outs.cons); (repeat (first | with_reducible exact Out.here | with_reducible apply Out.there))))))
    | ((with_reducible apply J.givesR (rroot_c (seedF 0) R hR)); exact rfl; exact rfl; focus (exact RH.of (by decide)))
    | ((with_reducible apply J.givesR (seed_ 1)); exact rfl; exact rfl; focus (exact RH.of (by omega)))
    | refine J.one ?_
    | refine J.loudS ?_
    | (refine J.loudQ ?_; intro _ _)
    | (refine J.loudB ?_; intro _)
    | (with_reducible apply J.list)
    | ((with_reducible apply J.gsplit); exact rfl; exact rfl)
    | ((with_reducible first | apply J.cond | apply JC.cond); exact rfl)
    | (intro h; exfalso; (first | (simp at h; done) | (rw [hl] at h; simp at h; done) | (revert h; decide)))
    | (intro h; (try simp only [decide_eq_true_eq, decide_eq_false_iff_not, beq_iff_eq, beq_eq_false_iff_ne, Bool.not_eq_true', Bool.not_eq_false', bne_iff_ne, bne_eq_false_iff_eq, ne_eq, ge_iff_le, gt_iff_lt] at h))
    | (with_reducible apply J.gave')
    | ((with_reducible apply J.kept'); rotate_left; (repeat (first | (with_reducible exact Outs.nil) | ((with_reducible apply Outs.cons); (repeat (first | with_reducible exact Out.here | with_reducible apply Out.there))))))
  all_goals (rfl)
def uF (x : Int) : Nat := ((x.tmod 2 + 2).tmod 2).toNat
theorem tm2 (x : Int) : -2 < x.tmod 2 ∧ x.tmod 2 < 2 := by
  have h1 := Int.tmod_lt_of_pos x (b := 2) (by decide)
  have h2 := Int.lt_tmod_of_pos x (b := 2) (by decide)
  omega
theorem uF_eq (x : Int) : (x.tmod 2 + 2).tmod 2 = (uF x : Int) := by
  have h0 := tm2 x
  have h2 := Int.tmod_nonneg 2 (a := x.tmod 2 + 2) (by omega)
  unfold uF
  omega
theorem uF_le (x : Int) : uF x ≤ 1 := by
  have h0 := tm2 x
  have h1 := Int.tmod_lt_of_pos (x.tmod 2 + 2) (b := 2) (by decide)
  unfold uF
  omega
theorem wx_at {n : Int} {i : Nat} {x : Int} (h : (wv n)[i]? = some (.int .u64 x)) : (wv n)[i]? = some (.int .u64 x) := h
theorem fees (u n : Int) (hn : Wd n) (w : World) (hw : True) : CSpec Try.prog 3 [.int .i64 u, .agg (wv n).toArray] [] w (Gives (.bool true)) := by
  obtain ⟨x0, x1, x2, x3, h0, h1, h2, h3, rfl⟩ := wd_words hn
  obtain ⟨n, en⟩ : ∃ n, n = x0 + 18446744073709551616 * x1 + 340282366920938463463374607431768211456 * x2 + 6277101735386680763835789423207666416102355444464034512896 * x3 := ⟨_, rfl⟩
  have ew := wv_words h0 h1 h2 h3
  rw [← en] at hn ew ⊢
  have e12 := orI_wo h1 h2
  have z12 := orI_zero h1 h2
  have z123 := orI_zero e12 h3
  have g0 : (wv n)[0]? = some (.int .u64 x0) := by rw [ew]; rfl
  have g1 : (wv n)[1]? = some (.int .u64 x1) := by rw [ew]; rfl
  have g2 : (wv n)[2]? = some (.int .u64 x2) := by rw [ew]; rfl
  have g3 : (wv n)[3]? = some (.int .u64 x3) := by rw [ew]; rfl
  have b0 := h0
  have b1 := h1
  have b2 := h2
  have b3 := h3
  unfold Wo at b0 b1 b2 b3
  clear ew
  obtain ⟨R, hR⟩ : ∃ R, rootF (seedF (uF u)) = R := ⟨_, rfl⟩
  refine spec_own0 Try.func3 rfl Try.ntmps3 rfl (l0 := [(0, .int .i64 u), (1, .agg (wv n).toArray)]) rfl ?_
  repeat' first
    | (refine J.qv ?_; (with_reducible apply exq); focus (first
      | ((with_reducible apply Qv.rem); exact rfl; exact rfl; decide; exact uF_eq u)
      | ((with_reducible apply Qv.rem); exact rfl; exact rfl; decide; exact rfl)
      | ((with_reducible apply Qv.add); exact rfl; exact rfl; exact wr64 (by have := tm2 u; omega) (by have := tm2 u; omega) (show u.tmod 2 + 2 = _ from rfl))
      | ((with_reducible apply Qv.indexArr (o' := 0)); exact rfl; exact rfl; (focus (constructor <;> decide)); exact (show 0 + Int.toNat 0 * 1 = 0 from rfl))
      | ((with_reducible apply Qv.indexArr (o' := 1)); exact rfl; exact rfl; (focus (constructor <;> decide)); exact (show 0 + Int.toNat 1 * 1 = 1 from rfl))
      | ((with_reducible apply Qv.indexArr (o' := 2)); exact rfl; exact rfl; (focus (constructor <;> decide)); exact (show 0 + Int.toNat 2 * 1 = 2 from rfl))
      | ((with_reducible apply Qv.indexArr (o' := 3)); exact rfl; exact rfl; (focus (constructor <;> decide)); exact (show 0 + Int.toNat 3 * 1 = 3 from rfl))
      | ((with_reducible apply Qv.or); exact rfl; exact rfl)
      | ((with_reducible apply Qv.eqlA); exact rfl; exact rfl; kernel_rfl; (exact fun w => weq (feeF n) 1 (And.intro (by unfold Wd feeF; split <;> omega) (by unfold Wd; omega)) w))
      | ((with_reducible apply Qv.eqlA); exact rfl; exact rfl; kernel_rfl; (exact fun w => weq (feeF n) 0 (And.intro (by unfold Wd feeF; split <;> omega) (by unfold Wd; omega)) w))))
    | (refine J.qr ?_; (with_reducible apply exq); focus (first
      | ((with_reducible apply Qr.load1); exact rfl; (focus ((repeat (first | with_reducible exact In.here | with_reducible apply In.there)); done)); (with_reducible first | exact g0 | exact g1 | exact g2 | exact g3))
      | ((with_reducible apply Qr.loadFull); exact rfl; (focus ((repeat (first | with_reducible exact In.here | with_reducible apply In.there)); done)); with_reducible exact wv_length _)))
    | ((with_reducible apply J.allocW); exact rfl; exact rfl; intro _)
    | ((with_reducible apply J.givesR (alive20)); exact rfl; exact rfl; focus (exact RH.true_))
    | ((with_reducible apply J.newC (fun w => new_ (uF u) 1 900 (uF_le u) w trivial) hR); exact rfl; exact rfl; intro p9 r9 k9)
    | ((with_reducible apply J.givesP (fee_ _ _)); exact rfl; exact rfl; (exact hn))
    | refine J.one ?_
    | refine J.loudS ?_
    | (refine J.loudQ ?_; intro _ _)
    | (refine J.loudB ?_; intro _)
    | (with_reducible apply J.list)
    | ((with_reducible apply J.gsplit); exact rfl; exact rfl)
    | ((with_reducible first | apply J.cond | apply JC.cond); exact rfl)
    | (intro h; exfalso; (first | (simp at h; done) | omega))
    | (intro h; (try simp only [decide_eq_true_eq, decide_eq_false_iff_not, beq_iff_eq, beq_eq_false_iff_ne, Bool.not_eq_true', Bool.not_eq_false', bne_iff_ne, bne_eq_false_iff_eq, ne_eq, ge_iff_le, gt_iff_lt] at h))
    | (with_reducible apply J.gave')
    | ((with_reducible apply J.kept'); rotate_left; (repeat (first | (with_reducible exact Outs.nil) | ((with_reducible apply Outs.cons); (repeat (first | with_reducible exact Out.here | with_reducible apply Out.there))))))
  all_goals first
    | (have e1 : feeF n = 1 := if_pos (by omega)
       simp only [retv, e1]
       rfl)
    | (have e1 : feeF n = 0 := if_neg (by omega)
       simp only [retv, e1]
       rfl)
    | (trace_state; fail)
theorem ClientFees {r : Reach} {b0 : Nat} {H : Type} {enc : TypeId × Value → H} {spare : Nat → Bool} {held : Bool} {d1 : DataW H} {p1 : List MemPlace} (x0 : Int) (v1 : Value) (W : World) (h0 : (Lit.int .i64 x0).wf = true) (o1 : Value.okWide Try.prog W r b0 24 v1) (t1 : DataW.Trod enc Try.prog W 0 spare held 24 v1 d1 p1) :
    Calls Try.prog 3 #[.int .i64 x0, v1] W fun e w' => e = .returned (.bool true) ∧ Below W.heap.size W w' := by
  obtain ⟨c1, rfl, r1⟩ := in_agg (L := wsh) (k := 3) o1 t1 (by kernel_rfl) (by kernel_rfl)
  obtain ⟨x1, h1, rfl⟩ := reads_wv r1
  exact (fees x0 x1 h1 W trivial).below
end Go.Proofs.Ytfcaeifpclpnoaa.Cfe
