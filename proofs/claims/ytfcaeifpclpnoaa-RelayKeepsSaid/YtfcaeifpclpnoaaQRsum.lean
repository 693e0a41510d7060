/-
  The reference: numbers as octets, and SHA-256. No conditions.
-/
import Derived.Test.YtfcaeifpclpnoaaQHsum
import Derived.Test.YtfcaeifpclpnoaaQEs
namespace Go.Proofs.Ytfcaeifpclpnoaa.Rsum
open Go Go.RowKit Eng
set_option linter.unusedVariables false
set_option maxRecDepth 100000
set_option linter.unusedSimpArgs false
open Sha Iter Hash Bytes Hsum
set_option maxHeartbeats 1000000
theorem r8 {m : Nat} : IntKind.u8.wrap ((m : Int) % 256) = ((m % 256 : Nat) : Int) := by
  simp [IntKind.wrap, IntKind.signed, IntKind.bits]
theorem q8 {n size k : Nat} (hk : k < size) (hn : n ≤ 9223372036854775807) : IntKind.u64.wrap (((n / 256 ^ (size - (k + 1)) : Nat) : Int).tdiv 256) = ((n / 256 ^ (size - k) : Nat) : Int) := by
  have e : size - k = size - (k + 1) + 1 := by omega
  have h1 := divs n (size - (k + 1))
  rw [Int.tdiv_eq_ediv_of_nonneg (Int.natCast_nonneg _), e, Nat.pow_succ, ← Nat.div_div_eq_div_mul]
  generalize n / 256 ^ (size - (k + 1)) = q at *
  exact wru64 (by omega) (by omega) (by omega)
theorem sub1 {size : Nat} (h : size ≤ 8) : IntKind.i64.wrap (imin (imax (size : Int) 0) 8 - 1) = (size : Int) - 1 := by
  rw [sizes h]
  exact wr64 (by omega) (by omega) rfl
theorem part_all {n size : Nat} : tab (fun _ => Value.int .u8 0) size = tab (Hash.part n size size) size := tab_same fun j hj => by unfold Hash.part; rw [if_neg (by omega)]
theorem part_none {n size : Nat} : tab (Hash.part n size 0) size = bcs (num n size) := by
  rw [num_tab]
  refine tab_same fun j hj => ?_
  unfold Hash.part
  rw [if_pos (Nat.zero_le _)]
theorem rnum (n size : Nat) (w : World) (hw : n ≤ 9223372036854775807 ∧ size ≤ 8) : CSpec Try.prog 129 [.int .i64 (n : Int), .int .i64 (size : Int)] [] w (Fresh 5 1 size (bcs (num n size)) []) := by
  refine spec_own0 Try.func129 rfl Try.ntmps129 rfl (l0 := [(0, .int .i64 (n : Int)), (1, .int .i64 (size : Int))]) rfl ?_
  repeat' first
    | (refine J.qv ?_; (with_reducible apply exq); focus (first
      | ((with_reducible apply Qv.sub); exact rfl; exact rfl; exact sub1 hw.2)
      | ((with_reducible apply Qv.conv); exact rfl; exact wru64 (z := (n : Int)) (by omega) (by omega) rfl)))
    | ((with_reducible apply J.makeSlice (len := size)); exact rfl; exact rfl; exact rfl; exact sizes hw.2; exact sizes hw.2; omega; decide; intro _)
    | refine J.one ?_
    | refine J.loudS ?_
    | (refine J.loudQ ?_; intro _ _)
    | (refine J.loudB ?_; intro _)
    | (with_reducible apply J.list)
    | ((with_reducible apply J.gsplit); exact rfl; exact rfl)
    | ((with_reducible first | apply J.cond | apply JC.cond); exact rfl)
    | (intro h; exfalso; (first | (simp at h; done) | (simp at h; omega) | omega))
    | (intro h; (try simp only [decide_eq_true_eq, decide_eq_false_iff_not, beq_iff_eq, beq_eq_false_iff_ne, Bool.not_eq_true', Bool.not_eq_false', bne_iff_ne, bne_eq_false_iff_eq, ne_eq, ge_iff_le, gt_iff_lt] at h))
    | (with_reducible apply J.gave')
    | ((with_reducible apply J.kept'); rotate_left; (repeat (first | (with_reducible exact Outs.nil) | ((with_reducible apply Outs.cons); (repeat (first | with_reducible exact Out.here | with_reducible apply Out.there))))))
  rename_i b
  have e0 : n / 256 ^ (size - size) = n := by simp
  apply J.reB (b := b) (C' := tab (Hash.part n size size) size)
  · (repeat (first | with_reducible exact Upd.here | with_reducible apply Upd.there))
  · exact part_all
  apply J.loopI (σ := Nat) (I := fun s => s ≤ size) (L := fun s => [(5, .slice (some ⟨b, 0, none⟩) size size), (6, .int .u64 ((n / 256 ^ (size - s) : Nat) : Int)), (7, .int .i64 ((s : Int) - 1))]) (HH := fun s => [blk b (tab (Hash.part n size s) size) 5]) (m := fun s => s) (s0 := size)
  · ((try dsimp only); (exact Nat.le_refl _))
  · ((try dsimp only); repeat (first | exact sub.nil _ | (refine sub.consE rfl ?_ ?_; (first | with_reducible rfl | ((focus (rw [e0]; done))) | rfl))))
  · ((try dsimp only); (repeat (first | (with_reducible exact Outs.nil) | ((with_reducible apply Outs.cons); (repeat (first | with_reducible exact Out.here | with_reducible apply Out.there))))))
  rintro k hk
  try dsimp only at hk ⊢
  rcases k with _ | k
  · skip
    repeat' first
      | (refine J.qv ?_; (with_reducible apply exq); focus (first
        | ((with_reducible apply Qv.conv); exact rfl; exact r8)
        | ((with_reducible apply Qv.quo); exact rfl; exact rfl; decide; exact q8 (by omega) (by omega))
        | ((with_reducible apply Qv.sub); exact rfl; exact rfl; exact wr64 (z := (k : Int) - 1) (by omega) (by omega) (by omega))
        | ((with_reducible apply Qv.indexBlk (b := b)); exact rfl; exact rfl; (constructor <;> omega); exact rfl)))
      | ((with_reducible apply J.store1); exact rfl; exact rfl; exact rfl; (repeat (first | with_reducible exact Upd.here | with_reducible apply Upd.there)); exact tab_put (k := k) (by omega) (by omega); (rw [tab_length]; omega))
      | refine J.one ?_
      | refine J.loudS ?_
      | (refine J.loudQ ?_; intro _ _)
      | (refine J.loudB ?_; intro _)
      | (with_reducible apply J.list)
      | ((with_reducible apply J.gsplit); exact rfl; exact rfl)
      | ((with_reducible first | apply J.cond | apply JC.cond); exact rfl)
      | (intro h; exfalso; (first | (simp at h; done) | (simp at h; omega) | omega))
      | (intro h; (try simp only [decide_eq_true_eq, decide_eq_false_iff_not, beq_iff_eq, beq_eq_false_iff_ne, Bool.not_eq_true', Bool.not_eq_false', bne_iff_ne, bne_eq_false_iff_eq, ne_eq, ge_iff_le, gt_iff_lt] at h))
      | (with_reducible apply J.gave')
      | ((with_reducible apply J.kept'); rotate_left; (repeat (first | (with_reducible exact Outs.nil) | ((with_reducible apply Outs.cons); (repeat (first | with_reducible exact Out.here | with_reducible apply Out.there))))))
    all_goals
      first
      | (exact J.freshBlk (by (repeat (first | with_reducible exact Out.here | with_reducible apply Out.there))) part_none (by rw [bcs_length, num_length]; omega) (by simp only [maxLen]; omega))
      | (trace_state; fail)
  · have hdv := divs n (size - (k + 1))
    repeat' first
      | (refine J.qv ?_; (with_reducible apply exq); focus (first
        | ((with_reducible apply Qv.conv); exact rfl; exact r8)
        | ((with_reducible apply Qv.quo); exact rfl; exact rfl; decide; exact q8 (by omega) (by omega))
        | ((with_reducible apply Qv.sub); exact rfl; exact rfl; exact wr64 (z := (k : Int) - 1) (by omega) (by omega) (by omega))
        | ((with_reducible apply Qv.indexBlk (b := b)); exact rfl; exact rfl; (constructor <;> omega); exact rfl)))
      | ((with_reducible apply J.store1); exact rfl; exact rfl; exact rfl; (repeat (first | with_reducible exact Upd.here | with_reducible apply Upd.there)); exact tab_put (k := k) (by omega) (by omega); (rw [tab_length]; omega))
      | refine J.one ?_
      | refine J.loudS ?_
      | (refine J.loudQ ?_; intro _ _)
      | (refine J.loudB ?_; intro _)
      | (with_reducible apply J.list)
      | ((with_reducible apply J.gsplit); exact rfl; exact rfl)
      | ((with_reducible first | apply J.cond | apply JC.cond); exact rfl)
      | (intro h; exfalso; (first | (simp at h; done) | (simp at h; omega) | omega))
      | (intro h; (try simp only [decide_eq_true_eq, decide_eq_false_iff_not, beq_iff_eq, beq_eq_false_iff_ne, Bool.not_eq_true', Bool.not_eq_false', bne_iff_ne, bne_eq_false_iff_eq, ne_eq, ge_iff_le, gt_iff_lt] at h))
      | (with_reducible apply J.gave')
      | ((with_reducible apply J.kept'); rotate_left; (repeat (first | (with_reducible exact Outs.nil) | ((with_reducible apply Outs.cons); (repeat (first | with_reducible exact Out.here | with_reducible apply Out.there))))))
    all_goals
      first
      | (apply J.reB (b := b) (C' := tab (Hash.part n size k) size)
         · (repeat (first | with_reducible exact Upd.here | with_reducible apply Upd.there))
         · exact part_put (by omega)
         (apply J.againI (s := (k + 1)) (s' := k); (focus (omega)); (focus ((try dsimp only); omega)); (focus (((try dsimp only); repeat (first | exact sub.nil _ | (refine sub.consE rfl ?_ ?_; (first | with_reducible rfl | ((focus (congr 1; omega))) | rfl)))))); ((try dsimp only); (repeat (first | (with_reducible exact Outs.nil) | ((with_reducible apply Outs.cons); (repeat (first | with_reducible exact Out.here | with_reducible apply Out.there))))))))
      | (trace_state; fail)
theorem mul8 {a : Nat} (h : a < 281474976710656) : IntKind.i64.wrap ((a : Int) * 256) = ((a * 2 ^ 8 : Nat) : Int) := wr64 (by omega) (by omega) (by omega)
theorem add8 {l : List UInt8} {i : Nat} (h : i < l.length) (h6 : i ≤ 6) : IntKind.i64.wrap (((be (l.take i) * 2 ^ 8 : Nat) : Int) + ((oc l i).toNat : Int)) = ((be (l.take (i + 1)) : Nat) : Int) := by
  have h1 := be_48 (l := l) h6
  have h2 := (oc l i).toNat_lt
  have h3 := be_take h
  exact wr64 (by omega) (by omega) (by omega)
theorem rint (ao : Option Addr) (n cap : Nat) (l : List UInt8) (w : World) (hw : Rd w ao (bcs l) ∧ n = l.length ∧ n ≤ cap ∧ l.length ≤ 7) : CSpec Try.prog 146 [.slice ao n cap] [] w (Gives (.int .i64 (be l : Int))) := by
  obtain ⟨hr, rfl, hc, h7⟩ := hw
  refine spec_own0 Try.func146 rfl Try.ntmps146 rfl (l0 := [(0, .slice ao l.length cap)]) rfl ?_
  repeat' first
    | (refine J.qv ?_; (with_reducible apply exq); focus (first
      | ((with_reducible apply Qv.mul); exact rfl; exact rfl; exact mul8 (be_48 (by omega)))
      | ((with_reducible apply Qv.add); exact rfl; exact rfl; exact add8 (by omega) (by omega))))
    | (refine J.qr ?_; (with_reducible apply exq); focus (first
      | ((with_reducible apply Qr.indexRd (k := i) (C := bcs l)); exact rfl; exact rfl; exact rfl; (first | omega | (rw [bcs_length] at *; omega)); exact RH.old hr; (rw [bcs_length]; omega))
      | ((with_reducible apply Qr.rd1 (C := bcs l)); exact rfl; exact RH.old hr; (rw [Nat.mul_one]; exact bcs_get (oc_get (by omega))))))
    | refine J.one ?_
    | refine J.loudS ?_
    | (refine J.loudQ ?_; intro _ _)
    | (refine J.loudB ?_; intro _)
    | (with_reducible apply J.list)
    | ((with_reducible apply J.gsplit); exact rfl; exact rfl)
    | ((with_reducible first | apply J.cond | apply JC.cond); exact rfl)
    | (intro h; exfalso; (first | (simp at h; done) | (simp at h; omega) | omega))
    | (intro h; (try simp only [decide_eq_true_eq, decide_eq_false_iff_not, beq_iff_eq, beq_eq_false_iff_ne, Bool.not_eq_true', Bool.not_eq_false', bne_iff_ne, bne_eq_false_iff_eq, ne_eq, ge_iff_le, gt_iff_lt] at h))
    | (with_reducible apply J.gave')
    | ((with_reducible apply J.kept'); rotate_left; (repeat (first | (with_reducible exact Outs.nil) | ((with_reducible apply Outs.cons); (repeat (first | with_reducible exact Out.here | with_reducible apply Out.there))))))
  apply J.loopI (σ := Nat) (I := fun q => (q ≤ l.length)) (L := fun q => [(0, .slice ao l.length cap), (4, .int .i64 (q : Int)), (3, .int .i64 (be (l.take q) : Int))]) (HH := fun q => []) (m := fun q => l.length - q) (s0 := 0)
  · ((try dsimp only); (exact Nat.zero_le _))
  · ((try dsimp only); repeat (first | exact sub.nil _ | (refine sub.consE rfl ?_ ?_; (first | with_reducible rfl | (fail) | rfl))))
  · ((try dsimp only); (repeat (first | (with_reducible exact Outs.nil) | ((with_reducible apply Outs.cons); (repeat (first | with_reducible exact Out.here | with_reducible apply Out.there))))))
  rintro i hI
  try dsimp only at hI ⊢
  have hb := (oc l i).toNat_lt
  repeat' first
    | (refine J.qv ?_; (with_reducible apply exq); focus (first
      | ((with_reducible apply Qv.mul); exact rfl; exact rfl; exact mul8 (be_48 (by omega)))
      | ((with_reducible apply Qv.add); exact rfl; exact rfl; exact add8 (by omega) (by omega))))
    | (refine J.qr ?_; (with_reducible apply exq); focus (first
      | ((with_reducible apply Qr.indexRd (k := i) (C := bcs l)); exact rfl; exact rfl; exact rfl; (first | omega | (rw [bcs_length] at *; omega)); exact RH.old hr; (rw [bcs_length]; omega))
      | ((with_reducible apply Qr.rd1 (C := bcs l)); exact rfl; exact RH.old hr; (rw [Nat.mul_one]; exact bcs_get (oc_get (by omega))))))
    | refine J.one ?_
    | refine J.loudS ?_
    | (refine J.loudQ ?_; intro _ _)
    | (refine J.loudB ?_; intro _)
    | (with_reducible apply J.list)
    | ((with_reducible apply J.gsplit); exact rfl; exact rfl)
    | ((with_reducible first | apply J.cond | apply JC.cond); exact rfl)
    | (intro h; exfalso; (first | (simp at h; done) | (simp at h; omega) | omega))
    | (intro h; (try simp only [decide_eq_true_eq, decide_eq_false_iff_not, beq_iff_eq, beq_eq_false_iff_ne, Bool.not_eq_true', Bool.not_eq_false', bne_iff_ne, bne_eq_false_iff_eq, ne_eq, ge_iff_le, gt_iff_lt] at h))
    | (with_reducible apply J.gave')
    | ((with_reducible apply J.kept'); rotate_left; (repeat (first | (with_reducible exact Outs.nil) | ((with_reducible apply Outs.cons); (repeat (first | with_reducible exact Out.here | with_reducible apply Out.there))))))
  all_goals
    first
    | (have e0 : i = l.length := by omega
       subst e0
       simp only [retv, List.take_length]
       done)
    | ((apply J.againI (s := i) (s' := (i + 1)); (focus (omega)); (focus ((try dsimp only); omega)); (focus (((try dsimp only); repeat (first | exact sub.nil _ | (refine sub.consE rfl ?_ ?_; (first | with_reducible rfl | ((focus (congr 1; omega))) | rfl)))))); ((try dsimp only); (repeat (first | (with_reducible exact Outs.nil) | ((with_reducible apply Outs.cons); (repeat (first | with_reducible exact Out.here | with_reducible apply Out.there))))))))
    | (trace_state; fail)
theorem rcat (ao : Option Addr) (n cap : Nat) (a : List UInt8) (bo : Option Addr) (m cp : Nat) (b : List UInt8) (w : World) (hw : Rd w ao (bcs a) ∧ n = a.length ∧ Rd w bo (bcs b) ∧ m = b.length ∧ a.length + b.length ≤ 1099511627776) : CSpec Try.prog 141 [.slice ao n cap, .slice bo m cp] [] w (Fresh 5 1 (a.length + b.length) (bcs (a ++ b)) []) := by
  obtain ⟨hr, rfl, hs, rfl, hl⟩ := hw
  refine spec_own0 Try.func141 rfl Try.ntmps141 rfl (l0 := [(0, .slice ao a.length cap), (1, .slice bo b.length cp)]) rfl ?_
  repeat' first
    | ((with_reducible apply J.buildRow0); exact rfl; intro _)
    | ((with_reducible apply J.appendR (news := bcs a)); exact rfl; exact rfl; (repeat (first | with_reducible exact Out.here | with_reducible apply Out.there)); exact rfl; exact RH.old hr; (rw [bcs_length]; omega); exact bcs_ones _; exact rfl; exact rfl; (unfold maxLen; omega); omega; intro _ _)
    | ((with_reducible apply J.appendR (news := bcs b)); exact rfl; exact rfl; (repeat (first | with_reducible exact Out.here | with_reducible apply Out.there)); exact rfl; exact RH.old hs; (rw [bcs_length]; omega); exact bcs_ones _; exact rfl; exact rfl; (unfold maxLen; omega); omega; intro _ _)
    | refine J.one ?_
    | refine J.loudS ?_
    | (refine J.loudQ ?_; intro _ _)
    | (refine J.loudB ?_; intro _)
    | (with_reducible apply J.list)
    | ((with_reducible apply J.gsplit); exact rfl; exact rfl)
    | ((with_reducible first | apply J.cond | apply JC.cond); exact rfl)
    | (intro h; exfalso; fail)
    | (intro h; (try simp only [decide_eq_true_eq, decide_eq_false_iff_not, beq_iff_eq, beq_eq_false_iff_ne, Bool.not_eq_true', Bool.not_eq_false', bne_iff_ne, bne_eq_false_iff_eq, ne_eq, ge_iff_le, gt_iff_lt] at h))
    | (with_reducible apply J.gave')
    | ((with_reducible apply J.kept'); rotate_left; (repeat (first | (with_reducible exact Outs.nil) | ((with_reducible apply Outs.cons); (repeat (first | with_reducible exact Out.here | with_reducible apply Out.there))))))
  all_goals (((with_reducible apply J.freshRow); (repeat (first | with_reducible exact Out.here | with_reducible apply Out.there)); exact rfl; omega; (simp only [List.nil_append]; exact (bcs_append _ _).symm)))
theorem RH.b128 {w0 : World} {own : List Nat} {H : List Asrt} {b E : Nat} (hm : In (Eng.blk b [Value.int .u8 128] E) H) : RH w0 own H (fun w => Rd w (some ⟨b, 0, none⟩) (bcs [128])) := RH.blk0 hm
theorem rpad (ao : Option Addr) (n cap : Nat) (l : List UInt8) (w : World) (hw : Rd w ao (bcs l) ∧ n = l.length ∧ l.length ≤ 1099511620000) : CSpec Try.prog 139 [.slice ao n cap] [] w (Fresh 5 1 (pad l).length (bcs (pad l)) []) := by
  obtain ⟨hr, rfl, hl⟩ := hw
  have hz : padz l.length ≤ 63 := by unfold padz; omega
  refine spec_own0 Try.func139 rfl Try.ntmps139 rfl (l0 := [(0, .slice ao l.length cap)]) rfl ?_
  repeat' first
    | (refine J.qv ?_; (with_reducible apply exq); focus (first
      | ((with_reducible apply Qv.mul); exact rfl; exact rfl; exact wr64 (z := ((8 * l.length : Nat) : Int)) (by omega) (by omega) (by omega))))
    | ((with_reducible apply J.freshR (rcat _ _ _ l _ _ _ [128])); exact rfl; exact rfl; (focus (exact RH.and (RH.old hr) (RH.and (RH.of (by first | rfl | (simp [num_length]; done) | (simp [num_length]; omega))) (RH.and (RH.b128 (by (repeat (first | with_reducible exact In.here | with_reducible apply In.there)))) (RH.of ⟨(by first | rfl | (simp [num_length]; done) | (simp [num_length]; omega)), (by simp; omega)⟩))))); intro _ _)
    | ((with_reducible apply J.freshR (rnum (8 * l.length) 8)); exact rfl; exact rfl; (focus ((refine RH.of ?_; omega))); intro _ _)
    | ((with_reducible apply J.freshR (rcat _ _ _ (l ++ [128] ++ List.replicate k 0) _ _ _ (num (8 * l.length) 8))); exact rfl; exact rfl; (focus (exact RH.and (RH.row (by (repeat (first | with_reducible exact In.here | with_reducible apply In.there)))) (RH.and (RH.of (by first | rfl | (simp [num_length]; done) | (simp [num_length]; omega))) (RH.and (RH.row (by (repeat (first | with_reducible exact In.here | with_reducible apply In.there)))) (RH.of ⟨(by first | rfl | (simp [num_length]; done) | (simp [num_length]; omega)), (by simp [num_length]; omega)⟩))))); intro _ _)
    | refine J.one ?_
    | refine J.loudS ?_
    | (refine J.loudQ ?_; intro _ _)
    | (refine J.loudB ?_; intro _)
    | (with_reducible apply J.list)
    | ((with_reducible apply J.gsplit); exact rfl; exact rfl)
    | ((with_reducible first | apply J.cond | apply JC.cond); exact rfl)
    | (intro h; exfalso; (first | (simp at h; done) | (unfold padz at *; omega)))
    | (intro h; (try simp only [decide_eq_true_eq, decide_eq_false_iff_not, beq_iff_eq, beq_eq_false_iff_ne, Bool.not_eq_true', Bool.not_eq_false', bne_iff_ne, bne_eq_false_iff_eq, ne_eq, ge_iff_le, gt_iff_lt] at h))
    | (with_reducible apply J.gave')
    | ((with_reducible apply J.kept'); rotate_left; (repeat (first | (with_reducible exact Outs.nil) | ((with_reducible apply Outs.cons); (repeat (first | with_reducible exact Out.here | with_reducible apply Out.there))))))
  rename_i b q1 _
  apply J.reR (v' := .slice q1.1 (l.length + 1 + 0) q1.2) (n' := l.length + 1 + 0) (C' := bcs (l ++ [128] ++ List.replicate 0 0))
  · (repeat (first | with_reducible exact Upd.here | with_reducible apply Upd.there))
  · rfl
  · rfl
  · simp [bcs]
  apply J.loopI (σ := (Nat × (Option Addr × Nat))) (I := fun s => (s.1 ≤ padz l.length)) (L := fun s => [(3, .slice s.2.1 (l.length + 1 + s.1) s.2.2), (0, .slice ao l.length cap)]) (HH := fun s => [row (.slice s.2.1 (l.length + 1 + s.1) s.2.2) 5 1 (l.length + 1 + s.1) (bcs (l ++ [128] ++ List.replicate s.1 0))]) (m := fun s => padz l.length - s.1) (s0 := (0, q1))
  · ((try dsimp only); (exact Nat.zero_le _))
  · ((try dsimp only); repeat (first | exact sub.nil _ | (refine sub.consE rfl ?_ ?_; (first | with_reducible rfl | (fail) | rfl))))
  · ((try dsimp only); (repeat (first | (with_reducible exact Outs.nil) | ((with_reducible apply Outs.cons); (repeat (first | with_reducible exact Out.here | with_reducible apply Out.there))))))
  rintro ⟨k, q⟩ hI
  try dsimp only at hI ⊢
  repeat' first
    | (refine J.qv ?_; (with_reducible apply exq); focus (first
      | ((with_reducible apply Qv.mul); exact rfl; exact rfl; exact wr64 (z := ((8 * l.length : Nat) : Int)) (by omega) (by omega) (by omega))))
    | ((with_reducible apply J.freshR (rcat _ _ _ l _ _ _ [128])); exact rfl; exact rfl; (focus (exact RH.and (RH.old hr) (RH.and (RH.of (by first | rfl | (simp [num_length]; done) | (simp [num_length]; omega))) (RH.and (RH.b128 (by (repeat (first | with_reducible exact In.here | with_reducible apply In.there)))) (RH.of ⟨(by first | rfl | (simp [num_length]; done) | (simp [num_length]; omega)), (by simp; omega)⟩))))); intro _ _)
    | ((with_reducible apply J.freshR (rnum (8 * l.length) 8)); exact rfl; exact rfl; (focus ((refine RH.of ?_; omega))); intro _ _)
    | ((with_reducible apply J.freshR (rcat _ _ _ (l ++ [128] ++ List.replicate k 0) _ _ _ (num (8 * l.length) 8))); exact rfl; exact rfl; (focus (exact RH.and (RH.row (by (repeat (first | with_reducible exact In.here | with_reducible apply In.there)))) (RH.and (RH.of (by first | rfl | (simp [num_length]; done) | (simp [num_length]; omega))) (RH.and (RH.row (by (repeat (first | with_reducible exact In.here | with_reducible apply In.there)))) (RH.of ⟨(by first | rfl | (simp [num_length]; done) | (simp [num_length]; omega)), (by simp [num_length]; omega)⟩))))); intro _ _)
    | refine J.one ?_
    | refine J.loudS ?_
    | (refine J.loudQ ?_; intro _ _)
    | (refine J.loudB ?_; intro _)
    | (with_reducible apply J.list)
    | ((with_reducible apply J.gsplit); exact rfl; exact rfl)
    | ((with_reducible first | apply J.cond | apply JC.cond); exact rfl)
    | (intro h; exfalso; (first | (simp at h; done) | (unfold padz at *; omega)))
    | (intro h; (try simp only [decide_eq_true_eq, decide_eq_false_iff_not, beq_iff_eq, beq_eq_false_iff_ne, Bool.not_eq_true', Bool.not_eq_false', bne_iff_ne, bne_eq_false_iff_eq, ne_eq, ge_iff_le, gt_iff_lt] at h))
    | (with_reducible apply J.gave')
    | ((with_reducible apply J.kept'); rotate_left; (repeat (first | (with_reducible exact Outs.nil) | ((with_reducible apply Outs.cons); (repeat (first | with_reducible exact Out.here | with_reducible apply Out.there))))))
  all_goals
    first
    | (have hq : k < padz l.length := by unfold padz at *; omega
       rename_i b2 q2 _
       apply J.reR (v' := .slice q2.1 (l.length + 1 + (k + 1)) q2.2) (n' := l.length + 1 + (k + 1)) (C' := bcs (l ++ [128] ++ List.replicate (k + 1) 0))
       · (repeat (first | with_reducible exact Upd.here | with_reducible apply Upd.there))
       · rfl
       · rfl
       · simp [bcs, List.replicate_succ']
       (apply J.againI (s := (k, q)) (s' := (k + 1, q2)); (focus (omega)); (focus ((try dsimp only); (show k + 1 ≤ padz l.length; omega))); (focus (((try dsimp only); repeat (first | exact sub.nil _ | (refine sub.consE rfl ?_ ?_; (first | with_reducible rfl | (fail) | rfl)))))); ((try dsimp only); (repeat (first | (with_reducible exact Outs.nil) | ((with_reducible apply Outs.cons); (repeat (first | with_reducible exact Out.here | with_reducible apply Out.there))))))))
    | (have hq : k = padz l.length := by unfold padz at *; omega
       subst hq
       ((with_reducible apply J.freshRow); (repeat (first | with_reducible exact Out.here | with_reducible apply Out.there)); exact rfl; (simp [pad, num_length]; try omega); exact rfl))
    | (trace_state; fail)
theorem ror_or (x : W32) (n : Nat) : (x >>> n) ||| (x <<< (32 - n)) = ror x n := BitVec.or_comm _ _
theorem rturn (x : W32) (n : Nat) (h : 1 ≤ n ∧ n ≤ 31) (w : World) : CSpec Try.prog 147 [u32 x, .int .i64 (n : Int)] [] w (Gives (u32 (ror x n))) := by
  refine spec_of Try.func147 rfl Try.ntmps147 rfl (l0 := [(0, u32 x), (1, .int .i64 (n : Int))]) rfl ?_
  intro fp
  repeat' first
    | (refine J.qv ?_; (with_reducible apply exq); focus (first
      | ((with_reducible apply Qv.conv); exact rfl; exact wru64 (by omega) (by omega) rfl)
      | ((with_reducible apply Qv.sub); exact rfl; exact rfl; exact wr64 (z := ((32 - n : Nat) : Int)) (by omega) (by omega) (by omega))
      | ((with_reducible apply Qv.shlB (n := 32 - n)); exact rfl; exact rfl; exact rfl; omega)
      | ((with_reducible apply Qv.shrB (n := n)); exact rfl; exact rfl; exact rfl; omega)))
    | refine J.one ?_
    | refine J.loudS ?_
    | (refine J.loudQ ?_; intro _ _)
    | (refine J.loudB ?_; intro _)
    | (with_reducible apply J.list)
    | ((with_reducible apply J.gsplit); exact rfl; exact rfl)
    | ((with_reducible first | apply J.cond | apply JC.cond); exact rfl)
    | (intro h; exfalso; (first | (simp at h; done) | (simp at h; omega)))
    | (intro h; (try simp only [decide_eq_true_eq, decide_eq_false_iff_not, beq_iff_eq, beq_eq_false_iff_ne, Bool.not_eq_true', Bool.not_eq_false', bne_iff_ne, bne_eq_false_iff_eq, ne_eq, ge_iff_le, gt_iff_lt] at h))
    | (with_reducible apply J.gave')
    | ((with_reducible apply J.kept'); rotate_left; (repeat (first | (with_reducible exact Outs.nil) | ((with_reducible apply Outs.cons); (repeat (first | with_reducible exact Out.here | with_reducible apply Out.there))))))
  all_goals ((simp only [retv]; rw [ror_or]))
def wst (l : List UInt8) (t : Nat) : Nat → W32 := if t ≤ 16 then wpart l t else sch l (t - 16)
theorem wst_sch (l : List UInt8) (n : Nat) : wst l (n + 16) = sch l n := by
  unfold wst
  rcases Nat.eq_zero_or_pos n with rfl | h
  · rfl
  · rw [if_neg (by omega)]
    congr 1
theorem wst_put {l : List UInt8} {i : Nat} {z : W32} (hi : i < 16) (hz : z = word l i) : tab (fun j => if j = i then u32 z else u32 (wst l i j)) 64 = tab (fun j => u32 (wst l (i + 1) j)) 64 := by
  have e1 : wst l i = wpart l i := by unfold wst; rw [if_pos (by omega)]
  have e2 : wst l (i + 1) = wpart l (i + 1) := by unfold wst; rw [if_pos (by omega)]
  rw [e1, e2]
  exact wpart_put hi hz
theorem wst_0 (l : List UInt8) : List.replicate 64 (Value.int .u32 0) = tab (fun j => u32 (wst l 0 j)) 64 := zeros64 l
theorem rs0 (w s : Nat → W32) (i : Nat) : Sha.rnds w s i 7 + (ror (Sha.rnds w s i 4) 6 ^^^ ror (Sha.rnds w s i 4) 11 ^^^ ror (Sha.rnds w s i 4) 25) + ((Sha.rnds w s i 4 &&& Sha.rnds w s i 5) ^^^ (~~~(Sha.rnds w s i 4) &&& Sha.rnds w s i 6)) + kw i + w i + ((ror (Sha.rnds w s i 0) 2 ^^^ ror (Sha.rnds w s i 0) 13 ^^^ ror (Sha.rnds w s i 0) 22) + ((Sha.rnds w s i 0 &&& Sha.rnds w s i 1) ^^^ (Sha.rnds w s i 0 &&& Sha.rnds w s i 2) ^^^ (Sha.rnds w s i 1 &&& Sha.rnds w s i 2))) = Sha.rnds w s (i + 1) 0 := by
  rw [Sha.rnds]
  simp only [rnd1, hi0, hi1, BitVec.add_assoc]
theorem rs4 (w s : Nat → W32) (i : Nat) : Sha.rnds w s i 3 + (Sha.rnds w s i 7 + (ror (Sha.rnds w s i 4) 6 ^^^ ror (Sha.rnds w s i 4) 11 ^^^ ror (Sha.rnds w s i 4) 25) + ((Sha.rnds w s i 4 &&& Sha.rnds w s i 5) ^^^ (~~~(Sha.rnds w s i 4) &&& Sha.rnds w s i 6)) + kw i + w i) = Sha.rnds w s (i + 1) 4 := by
  rw [Sha.rnds]
  simp only [rnd1, hi1, BitVec.add_assoc]
theorem rs1 (w s : Nat → W32) (i : Nat) : Sha.rnds w s i 0 = Sha.rnds w s (i + 1) 1 := rfl
theorem rs2 (w s : Nat → W32) (i : Nat) : Sha.rnds w s i 1 = Sha.rnds w s (i + 1) 2 := rfl
theorem rs3 (w s : Nat → W32) (i : Nat) : Sha.rnds w s i 2 = Sha.rnds w s (i + 1) 3 := rfl
theorem rs5 (w s : Nat → W32) (i : Nat) : Sha.rnds w s i 4 = Sha.rnds w s (i + 1) 5 := rfl
theorem rs6 (w s : Nat → W32) (i : Nat) : Sha.rnds w s i 5 = Sha.rnds w s (i + 1) 6 := rfl
theorem rs7 (w s : Nat → W32) (i : Nat) : Sha.rnds w s i 6 = Sha.rnds w s (i + 1) 7 := rfl

theorem rblock (s : Nat → W32) (ao : Option Addr) (cap : Nat) (l : List UInt8) (w : World) (hw : Rd w ao (bcs l) ∧ l.length = 64 ∧ 64 ≤ cap) : CSpec Try.prog 140 [.agg (st8 s).toArray, .agg (tab (fun j => u32 (kw j)) 64).toArray, .slice ao 64 cap] [] w (Gives (.agg (st8 (blockS s l)).toArray)) := by
  obtain ⟨hr, hl, hc⟩ := hw
  refine spec_own0 Try.func140 rfl Try.ntmps140 rfl (l0 := [(0, .agg (st8 s).toArray), (1, .agg (tab (fun j => u32 (kw j)) 64).toArray), (2, .slice ao 64 cap)]) rfl ?_
  repeat' first
    | refine J.one ?_
    | refine J.loudS ?_
    | (refine J.loudQ ?_; intro _ _)
    | (refine J.loudB ?_; intro _)
    | (with_reducible apply J.list)
    | ((with_reducible apply J.draw (id := 7) [0, 1, 3, 7, 0, 16, 48, 112, 15, 511] (.p 0 (.p 1 (.p 2 (.q 3 (.p 4 (.p 5 (.p 6 (.q 7 (.p 8 (.p 9 .nil)))))))))) (by kernel_rfl) ?_ (by kernel_rfl) ?_); (repeat (with_reducible first | exact PanicFree.body | exact PanicFree.np | exact PanicFree.lvS | apply PanicFree.then_ | apply PanicFree.blk)))
    | ((with_reducible apply J.draw (id := 8) [0, 0, 2, 0, 14, 30, 0, 64, 254, 0, 512, 1536, 3584, 8190, 0, 16414, 0, 114718, 245790, 0, 524288, 2080798, 4194302, 0, 8388608, 25165824, 58720256, 134217726, 268435455, 536870911] (.p 0 (.p 1 (.p 3 (.p 6 (.p 7 (.p 9 (.p 10 (.p 11 (.q 12 (.p 14 (.p 16 (.p 19 (.p 20 (.p 23 (.p 24 (.p 25 (.q 26 (.x 2 (.x 4 (.p 5 (.p 8 (.p 13 (.x 15 (.x 17 (.p 18 (.p 21 (.p 22 (.p 27 (.p 28 (.x 29 .nil .none)))))) .none) .none)))) .none) .none)))))))))))))))))) (by kernel_rfl) ?_ (by kernel_rfl) ?_); (repeat (with_reducible first | exact PanicFree.body | exact PanicFree.np | exact PanicFree.lvS | apply PanicFree.then_ | apply PanicFree.blk)))
    | ((with_reducible apply J.draw (id := 9) [0, 1, 0, 4, 0, 16, 0, 64, 0, 256, 0, 1024, 0, 4096, 0, 16384, 3, 65551, 196671, 459007, 984063, 2035711, 4145151, 8388607] (.p 0 (.q 1 (.p 2 (.q 3 (.p 4 (.q 5 (.p 6 (.q 7 (.p 8 (.q 9 (.p 10 (.q 11 (.p 12 (.q 13 (.p 14 (.q 15 (.p 16 (.p 17 (.p 18 (.p 19 (.p 20 (.p 21 (.p 22 (.p 23 .nil)))))))))))))))))))))))) (by kernel_rfl) ?_ (by kernel_rfl) ?_); (repeat (with_reducible first | exact PanicFree.body | exact PanicFree.np | exact PanicFree.lvS | apply PanicFree.then_ | apply PanicFree.blk)))
    | ((with_reducible apply J.draw (id := 13) [0, 0, 2, 0, 14, 30, 0, 94, 254, 511, 0, 0, 3072, 0, 8192, 0, 57344, 130048, 262143, 0, 524288, 1572864, 4194303, 0, 8388608, 25165824, 67108863, 134217727] (.p 0 (.p 1 (.p 3 (.p 6 (.p 10 (.p 11 (.p 12 (.p 13 (.p 14 (.p 15 (.p 16 (.p 17 (.p 19 (.p 20 (.q 21 (.p 23 (.p 24 (.q 25 (.x 2 (.x 4 (.p 5 (.x 7 (.p 8 (.p 9 (.p 18 (.p 22 (.p 26 (.p 27 .nil)))))) .none)) .none) .none))))))))))))))))))) (by kernel_rfl) ?_ (by kernel_rfl) ?_); (repeat (with_reducible first | exact PanicFree.body | exact PanicFree.np | exact PanicFree.lvS | apply PanicFree.then_ | apply PanicFree.blk)))
    | ((with_reducible apply J.pl2); exact rfl; (first | exact Gd.none | ((with_reducible apply Gd.on); exact rfl; exact rfl)); (repeat (first | (with_reducible exact PendF.nil) | ((with_reducible apply PendF.keep); exact rfl) | ((with_reducible apply PendF.gone); exact rfl))))
    | ((with_reducible apply J.pl2_off); exact rfl; ((with_reducible apply Gd.off); exact rfl; exact rfl; exact rfl); exact rfl; (repeat (first | (with_reducible exact PendF.nil) | ((with_reducible apply PendF.keep); exact rfl) | ((with_reducible apply PendF.gone); exact rfl))))
    | ((with_reducible apply J.pl2_off_none); exact rfl; ((with_reducible apply Gd.off); exact rfl; exact rfl; exact rfl); (repeat (first | (with_reducible exact PendF.nil) | ((with_reducible apply PendF.keep); exact rfl) | ((with_reducible apply PendF.gone); exact rfl))))
    | ((with_reducible first | apply J.psplit0 | apply J.psplit1 | apply J.psplit2); exact rfl; exact rfl; exact rfl)
    | (with_reducible exact J.pl_none)
    | ((with_reducible apply J.gsplit); exact rfl; exact rfl)
    | ((with_reducible first | apply J.cond | apply JC.cond); exact rfl)
    | (intro h; exfalso; (first | (simp at h; done) | (simp at h; omega) | omega))
    | (intro h; (try simp only [decide_eq_true_eq, decide_eq_false_iff_not, beq_iff_eq, beq_eq_false_iff_ne, Bool.not_eq_true', Bool.not_eq_false', bne_iff_ne, bne_eq_false_iff_eq, ne_eq, ge_iff_le, gt_iff_lt] at h))
    | (with_reducible apply J.gave')
    | ((with_reducible apply J.kept'); rotate_left; (repeat (first | (with_reducible exact Outs.nil) | ((with_reducible apply Outs.cons); (repeat (first | with_reducible exact Out.here | with_reducible apply Out.there))))))
  rename_i b3 b4 b6 b7
  apply J.reB (b := b7) (C' := tab (fun j => u32 (wst l 0 j)) 64)
  · (repeat (first | with_reducible exact Upd.here | with_reducible apply Upd.there))
  · exact wst_0 l
  apply J.loopI (σ := Nat) (I := fun q => q ≤ 64) (L := fun q => [(2, .slice ao 64 cap), (3, .pointer (some ⟨b3, 0, none⟩)), (4, .pointer (some ⟨b4, 0, none⟩)), (6, .pointer (some ⟨b6, 0, none⟩)), (7, .pointer (some ⟨b7, 0, none⟩)), (8, .int .i64 (q : Int))]) (HH := fun q => [blk b7 (tab (fun j => u32 (wst l q j)) 64) 198, blk b3 (st8 s) 197, blk b4 (tab (fun j => u32 (kw j)) 64) 198, blk b6 [.int .u32 0, .int .u32 0, .int .u32 0, .int .u32 0, .int .u32 0, .int .u32 0, .int .u32 0, .int .u32 0] 197]) (m := fun q => 64 - q) (s0 := 0)
  · ((try dsimp only); (exact Nat.zero_le _))
  · ((try dsimp only); repeat (first | exact sub.nil _ | (refine sub.consE rfl ?_ ?_; (first | with_reducible rfl | (fail) | rfl))))
  · ((try dsimp only); (repeat (first | (with_reducible exact Outs.nil) | ((with_reducible apply Outs.cons); (repeat (first | with_reducible exact Out.here | with_reducible apply Out.there))))))
  rintro i hI
  try dsimp only at hI ⊢
  rcases Nat.lt_or_ge i 64 with h64 | h64
  · rcases Nat.lt_or_ge i 16 with h16 | h16
    · skip
      repeat' first
        | (refine J.qv ?_; (with_reducible apply exq); focus (first
          | ((with_reducible apply Qv.indexArr); exact rfl; exact rfl; (constructor <;> omega); exact rfl)
          | ((with_reducible apply Qv.sl (p := 4 * i) (r := 4 * i + 4)); exact rfl; exact Bd.some rfl (by omega); exact Bd.some rfl (by omega); omega; omega)
          | ((with_reducible apply Qv.toB); exact rfl)))
        | ((with_reducible apply J.store1); exact rfl; exact rfl; exact rfl; (repeat (first | with_reducible exact Upd.here | with_reducible apply Upd.there)); exact tab_put (k := i) (by omega) (by omega); (rw [tab_length]; omega))
        | ((with_reducible apply J.givesR (rint _ _ _ ((l.drop (4 * i * 1)).take 4))); exact rfl; exact rfl; focus ((refine RH.and ?_ (RH.of ?_); exact RH.off (RH.old hr) (by omega); (refine ⟨?_, ?_, ?_⟩ <;> (first | (simp; omega) | omega)))))
        | refine J.one ?_
        | refine J.loudS ?_
        | (refine J.loudQ ?_; intro _ _)
        | (refine J.loudB ?_; intro _)
        | (with_reducible apply J.list)
        | ((with_reducible apply J.draw (id := 7) [0, 1, 3, 7, 0, 16, 48, 112, 15, 511] (.p 0 (.p 1 (.p 2 (.q 3 (.p 4 (.p 5 (.p 6 (.q 7 (.p 8 (.p 9 .nil)))))))))) (by kernel_rfl) ?_ (by kernel_rfl) ?_); (repeat (with_reducible first | exact PanicFree.body | exact PanicFree.np | exact PanicFree.lvS | apply PanicFree.then_ | apply PanicFree.blk)))
        | ((with_reducible apply J.draw (id := 8) [0, 0, 2, 0, 14, 30, 0, 64, 254, 0, 512, 1536, 3584, 8190, 0, 16414, 0, 114718, 245790, 0, 524288, 2080798, 4194302, 0, 8388608, 25165824, 58720256, 134217726, 268435455, 536870911] (.p 0 (.p 1 (.p 3 (.p 6 (.p 7 (.p 9 (.p 10 (.p 11 (.q 12 (.p 14 (.p 16 (.p 19 (.p 20 (.p 23 (.p 24 (.p 25 (.q 26 (.x 2 (.x 4 (.p 5 (.p 8 (.p 13 (.x 15 (.x 17 (.p 18 (.p 21 (.p 22 (.p 27 (.p 28 (.x 29 .nil .none)))))) .none) .none)))) .none) .none)))))))))))))))))) (by kernel_rfl) ?_ (by kernel_rfl) ?_); (repeat (with_reducible first | exact PanicFree.body | exact PanicFree.np | exact PanicFree.lvS | apply PanicFree.then_ | apply PanicFree.blk)))
        | ((with_reducible apply J.draw (id := 9) [0, 1, 0, 4, 0, 16, 0, 64, 0, 256, 0, 1024, 0, 4096, 0, 16384, 3, 65551, 196671, 459007, 984063, 2035711, 4145151, 8388607] (.p 0 (.q 1 (.p 2 (.q 3 (.p 4 (.q 5 (.p 6 (.q 7 (.p 8 (.q 9 (.p 10 (.q 11 (.p 12 (.q 13 (.p 14 (.q 15 (.p 16 (.p 17 (.p 18 (.p 19 (.p 20 (.p 21 (.p 22 (.p 23 .nil)))))))))))))))))))))))) (by kernel_rfl) ?_ (by kernel_rfl) ?_); (repeat (with_reducible first | exact PanicFree.body | exact PanicFree.np | exact PanicFree.lvS | apply PanicFree.then_ | apply PanicFree.blk)))
        | ((with_reducible apply J.draw (id := 13) [0, 0, 2, 0, 14, 30, 0, 94, 254, 511, 0, 0, 3072, 0, 8192, 0, 57344, 130048, 262143, 0, 524288, 1572864, 4194303, 0, 8388608, 25165824, 67108863, 134217727] (.p 0 (.p 1 (.p 3 (.p 6 (.p 10 (.p 11 (.p 12 (.p 13 (.p 14 (.p 15 (.p 16 (.p 17 (.p 19 (.p 20 (.q 21 (.p 23 (.p 24 (.q 25 (.x 2 (.x 4 (.p 5 (.x 7 (.p 8 (.p 9 (.p 18 (.p 22 (.p 26 (.p 27 .nil)))))) .none)) .none) .none))))))))))))))))))) (by kernel_rfl) ?_ (by kernel_rfl) ?_); (repeat (with_reducible first | exact PanicFree.body | exact PanicFree.np | exact PanicFree.lvS | apply PanicFree.then_ | apply PanicFree.blk)))
        | ((with_reducible apply J.pl2); exact rfl; (first | exact Gd.none | ((with_reducible apply Gd.on); exact rfl; exact rfl)); (repeat (first | (with_reducible exact PendF.nil) | ((with_reducible apply PendF.keep); exact rfl) | ((with_reducible apply PendF.gone); exact rfl))))
        | ((with_reducible apply J.pl2_off); exact rfl; ((with_reducible apply Gd.off); exact rfl; exact rfl; exact rfl); exact rfl; (repeat (first | (with_reducible exact PendF.nil) | ((with_reducible apply PendF.keep); exact rfl) | ((with_reducible apply PendF.gone); exact rfl))))
        | ((with_reducible apply J.pl2_off_none); exact rfl; ((with_reducible apply Gd.off); exact rfl; exact rfl; exact rfl); (repeat (first | (with_reducible exact PendF.nil) | ((with_reducible apply PendF.keep); exact rfl) | ((with_reducible apply PendF.gone); exact rfl))))
        | ((with_reducible first | apply J.psplit0 | apply J.psplit1 | apply J.psplit2); exact rfl; exact rfl; exact rfl)
        | (with_reducible exact J.pl_none)
        | ((with_reducible apply J.gsplit); exact rfl; exact rfl)
        | ((with_reducible first | apply J.cond | apply JC.cond); exact rfl)
        | (intro h; exfalso; (first | (simp at h; done) | (simp at h; omega) | omega))
        | (intro h; (try simp only [decide_eq_true_eq, decide_eq_false_iff_not, beq_iff_eq, beq_eq_false_iff_ne, Bool.not_eq_true', Bool.not_eq_false', bne_iff_ne, bne_eq_false_iff_eq, ne_eq, ge_iff_le, gt_iff_lt] at h))
        | (with_reducible apply J.gave')
        | ((with_reducible apply J.kept'); rotate_left; (repeat (first | (with_reducible exact Outs.nil) | ((with_reducible apply Outs.cons); (repeat (first | with_reducible exact Out.here | with_reducible apply Out.there))))))
      all_goals
        first
        | (apply J.reB (b := b7) (C' := tab (fun j => u32 (wst l (i + 1) j)) 64)
           · (repeat (first | with_reducible exact Upd.here | with_reducible apply Upd.there))
           · exact wst_put h16 word_of
           (apply J.againI (s := i) (s' := (i + 1)); (focus (omega)); (focus ((try dsimp only); omega)); (focus (((try dsimp only); repeat (first | exact sub.nil _ | (refine sub.consE rfl ?_ ?_; (first | with_reducible rfl | ((focus (congr 1; omega))) | rfl)))))); ((try dsimp only); (repeat (first | (with_reducible exact Outs.nil) | ((with_reducible apply Outs.cons); (repeat (first | with_reducible exact Out.here | with_reducible apply Out.there))))))))
        | (trace_state; fail)
    · obtain ⟨n, rfl⟩ : ∃ n, i = n + 16 := ⟨i - 16, by omega⟩
      apply J.reB (b := b7) (C' := tab (fun j => u32 (sch l n j)) 64)
      · (repeat (first | with_reducible exact Upd.here | with_reducible apply Upd.there))
      · rw [wst_sch]
      repeat' first
        | (refine J.qv ?_; (with_reducible apply exq); focus (first
          | ((with_reducible apply Qv.indexArr); exact rfl; exact rfl; (constructor <;> omega); exact rfl)
          | ((with_reducible apply Qv.toB); exact rfl)
          | ((with_reducible apply Qv.shrB (n := 10)); exact rfl; exact rfl; exact rfl; omega)
          | ((with_reducible apply Qv.shrB (n := 3)); exact rfl; exact rfl; exact rfl; omega)))
        | (refine J.qr ?_; (with_reducible apply exq); focus (first
          | ((with_reducible apply Qr.load1); exact rfl; (repeat (first | with_reducible exact In.here | with_reducible apply In.there)); (with_reducible refine tab_at (k := (n + 1)) ?_ ?_); omega; omega)
          | ((with_reducible apply Qr.load1); exact rfl; (repeat (first | with_reducible exact In.here | with_reducible apply In.there)); (with_reducible refine tab_at (k := (n + 14)) ?_ ?_); omega; omega)
          | ((with_reducible apply Qr.load1); exact rfl; (repeat (first | with_reducible exact In.here | with_reducible apply In.there)); (with_reducible refine tab_at (k := (n + 9)) ?_ ?_); omega; omega)
          | ((with_reducible apply Qr.load1); exact rfl; (repeat (first | with_reducible exact In.here | with_reducible apply In.there)); (with_reducible refine tab_at (k := n) ?_ ?_); omega; omega)))
        | (refine J.qo ?_; refine ⟨?_, ?_⟩; focus (first
          | ((with_reducible apply Qr.load1); exact rfl; (repeat (first | with_reducible exact In.here | with_reducible apply In.there)); (with_reducible refine tab_at (k := (n + 1)) ?_ ?_); omega; omega)
          | ((with_reducible apply Qr.load1); exact rfl; (repeat (first | with_reducible exact In.here | with_reducible apply In.there)); (with_reducible refine tab_at (k := (n + 14)) ?_ ?_); omega; omega)
          | ((with_reducible apply Qr.load1); exact rfl; (repeat (first | with_reducible exact In.here | with_reducible apply In.there)); (with_reducible refine tab_at (k := (n + 9)) ?_ ?_); omega; omega)
          | ((with_reducible apply Qr.load1); exact rfl; (repeat (first | with_reducible exact In.here | with_reducible apply In.there)); (with_reducible refine tab_at (k := n) ?_ ?_); omega; omega)))
        | ((with_reducible apply J.store1); exact rfl; exact rfl; exact rfl; (repeat (first | with_reducible exact Upd.here | with_reducible apply Upd.there)); exact tab_put (k := (n + 16)) (by omega) (by omega); (rw [tab_length]; omega))
        | ((with_reducible apply J.givesP (rturn _ 17)); exact rfl; exact rfl; decide)
        | ((with_reducible apply J.givesP (rturn _ 19)); exact rfl; exact rfl; decide)
        | ((with_reducible apply J.givesP (rturn _ 7)); exact rfl; exact rfl; decide)
        | ((with_reducible apply J.givesP (rturn _ 18)); exact rfl; exact rfl; decide)
        | ((with_reducible apply J.givesP (rturn _ 6)); exact rfl; exact rfl; decide)
        | ((with_reducible apply J.givesP (rturn _ 11)); exact rfl; exact rfl; decide)
        | ((with_reducible apply J.givesP (rturn _ 25)); exact rfl; exact rfl; decide)
        | ((with_reducible apply J.givesP (rturn _ 2)); exact rfl; exact rfl; decide)
        | ((with_reducible apply J.givesP (rturn _ 13)); exact rfl; exact rfl; decide)
        | ((with_reducible apply J.givesP (rturn _ 22)); exact rfl; exact rfl; decide)
        | refine J.one ?_
        | refine J.loudS ?_
        | (refine J.loudQ ?_; intro _ _)
        | (refine J.loudB ?_; intro _)
        | (with_reducible apply J.list)
        | ((with_reducible apply J.draw (id := 7) [0, 1, 3, 7, 0, 16, 48, 112, 15, 511] (.p 0 (.p 1 (.p 2 (.q 3 (.p 4 (.p 5 (.p 6 (.q 7 (.p 8 (.p 9 .nil)))))))))) (by kernel_rfl) ?_ (by kernel_rfl) ?_); (repeat (with_reducible first | exact PanicFree.body | exact PanicFree.np | exact PanicFree.lvS | apply PanicFree.then_ | apply PanicFree.blk)))
        | ((with_reducible apply J.draw (id := 8) [0, 0, 2, 0, 14, 30, 0, 64, 254, 0, 512, 1536, 3584, 8190, 0, 16414, 0, 114718, 245790, 0, 524288, 2080798, 4194302, 0, 8388608, 25165824, 58720256, 134217726, 268435455, 536870911] (.p 0 (.p 1 (.p 3 (.p 6 (.p 7 (.p 9 (.p 10 (.p 11 (.q 12 (.p 14 (.p 16 (.p 19 (.p 20 (.p 23 (.p 24 (.p 25 (.q 26 (.x 2 (.x 4 (.p 5 (.p 8 (.p 13 (.x 15 (.x 17 (.p 18 (.p 21 (.p 22 (.p 27 (.p 28 (.x 29 .nil .none)))))) .none) .none)))) .none) .none)))))))))))))))))) (by kernel_rfl) ?_ (by kernel_rfl) ?_); (repeat (with_reducible first | exact PanicFree.body | exact PanicFree.np | exact PanicFree.lvS | apply PanicFree.then_ | apply PanicFree.blk)))
        | ((with_reducible apply J.draw (id := 9) [0, 1, 0, 4, 0, 16, 0, 64, 0, 256, 0, 1024, 0, 4096, 0, 16384, 3, 65551, 196671, 459007, 984063, 2035711, 4145151, 8388607] (.p 0 (.q 1 (.p 2 (.q 3 (.p 4 (.q 5 (.p 6 (.q 7 (.p 8 (.q 9 (.p 10 (.q 11 (.p 12 (.q 13 (.p 14 (.q 15 (.p 16 (.p 17 (.p 18 (.p 19 (.p 20 (.p 21 (.p 22 (.p 23 .nil)))))))))))))))))))))))) (by kernel_rfl) ?_ (by kernel_rfl) ?_); (repeat (with_reducible first | exact PanicFree.body | exact PanicFree.np | exact PanicFree.lvS | apply PanicFree.then_ | apply PanicFree.blk)))
        | ((with_reducible apply J.draw (id := 13) [0, 0, 2, 0, 14, 30, 0, 94, 254, 511, 0, 0, 3072, 0, 8192, 0, 57344, 130048, 262143, 0, 524288, 1572864, 4194303, 0, 8388608, 25165824, 67108863, 134217727] (.p 0 (.p 1 (.p 3 (.p 6 (.p 10 (.p 11 (.p 12 (.p 13 (.p 14 (.p 15 (.p 16 (.p 17 (.p 19 (.p 20 (.q 21 (.p 23 (.p 24 (.q 25 (.x 2 (.x 4 (.p 5 (.x 7 (.p 8 (.p 9 (.p 18 (.p 22 (.p 26 (.p 27 .nil)))))) .none)) .none) .none))))))))))))))))))) (by kernel_rfl) ?_ (by kernel_rfl) ?_); (repeat (with_reducible first | exact PanicFree.body | exact PanicFree.np | exact PanicFree.lvS | apply PanicFree.then_ | apply PanicFree.blk)))
        | ((with_reducible apply J.pl2); exact rfl; (first | exact Gd.none | ((with_reducible apply Gd.on); exact rfl; exact rfl)); (repeat (first | (with_reducible exact PendF.nil) | ((with_reducible apply PendF.keep); exact rfl) | ((with_reducible apply PendF.gone); exact rfl))))
        | ((with_reducible apply J.pl2_off); exact rfl; ((with_reducible apply Gd.off); exact rfl; exact rfl; exact rfl); exact rfl; (repeat (first | (with_reducible exact PendF.nil) | ((with_reducible apply PendF.keep); exact rfl) | ((with_reducible apply PendF.gone); exact rfl))))
        | ((with_reducible apply J.pl2_off_none); exact rfl; ((with_reducible apply Gd.off); exact rfl; exact rfl; exact rfl); (repeat (first | (with_reducible exact PendF.nil) | ((with_reducible apply PendF.keep); exact rfl) | ((with_reducible apply PendF.gone); exact rfl))))
        | ((with_reducible first | apply J.psplit0 | apply J.psplit1 | apply J.psplit2); exact rfl; exact rfl; exact rfl)
        | (with_reducible exact J.pl_none)
        | ((with_reducible apply J.gsplit); exact rfl; exact rfl)
        | ((with_reducible first | apply J.cond | apply JC.cond); exact rfl)
        | (intro h; exfalso; (first | (simp at h; done) | (simp at h; omega) | omega))
        | (intro h; (try simp only [decide_eq_true_eq, decide_eq_false_iff_not, beq_iff_eq, beq_eq_false_iff_ne, Bool.not_eq_true', Bool.not_eq_false', bne_iff_ne, bne_eq_false_iff_eq, ne_eq, ge_iff_le, gt_iff_lt] at h))
        | (with_reducible apply J.gave')
        | ((with_reducible apply J.kept'); rotate_left; (repeat (first | (with_reducible exact Outs.nil) | ((with_reducible apply Outs.cons); (repeat (first | with_reducible exact Out.here | with_reducible apply Out.there))))))
      all_goals
        first
        | (apply J.reB (b := b7) (C' := tab (fun j => u32 (wst l (n + 16 + 1) j)) 64)
           · (repeat (first | with_reducible exact Upd.here | with_reducible apply Upd.there))
           · rw [show n + 16 + 1 = n + 1 + 16 by omega, wst_sch]; exact sch_put (by unfold lo1 lo0; rfl)
           (apply J.againI (s := (n + 16)) (s' := ((n + 16) + 1)); (focus (omega)); (focus ((try dsimp only); omega)); (focus (((try dsimp only); repeat (first | exact sub.nil _ | (refine sub.consE rfl ?_ ?_; (first | with_reducible rfl | ((focus (congr 1; omega))) | rfl)))))); ((try dsimp only); (repeat (first | (with_reducible exact Outs.nil) | ((with_reducible apply Outs.cons); (repeat (first | with_reducible exact Out.here | with_reducible apply Out.there))))))))
        | (trace_state; fail)
  · have e0 : i = 64 := by omega
    subst e0
    apply J.reB (b := b7) (C' := tab (fun j => u32 (sch l 48 j)) 64)
    · (repeat (first | with_reducible exact Upd.here | with_reducible apply Upd.there))
    · rw [show 64 = 48 + 16 from rfl, wst_sch]
    repeat' first
      | refine J.one ?_
      | refine J.loudS ?_
      | (refine J.loudQ ?_; intro _ _)
      | (refine J.loudB ?_; intro _)
      | (with_reducible apply J.list)
      | ((with_reducible apply J.draw (id := 7) [0, 1, 3, 7, 0, 16, 48, 112, 15, 511] (.p 0 (.p 1 (.p 2 (.q 3 (.p 4 (.p 5 (.p 6 (.q 7 (.p 8 (.p 9 .nil)))))))))) (by kernel_rfl) ?_ (by kernel_rfl) ?_); (repeat (with_reducible first | exact PanicFree.body | exact PanicFree.np | exact PanicFree.lvS | apply PanicFree.then_ | apply PanicFree.blk)))
      | ((with_reducible apply J.draw (id := 8) [0, 0, 2, 0, 14, 30, 0, 64, 254, 0, 512, 1536, 3584, 8190, 0, 16414, 0, 114718, 245790, 0, 524288, 2080798, 4194302, 0, 8388608, 25165824, 58720256, 134217726, 268435455, 536870911] (.p 0 (.p 1 (.p 3 (.p 6 (.p 7 (.p 9 (.p 10 (.p 11 (.q 12 (.p 14 (.p 16 (.p 19 (.p 20 (.p 23 (.p 24 (.p 25 (.q 26 (.x 2 (.x 4 (.p 5 (.p 8 (.p 13 (.x 15 (.x 17 (.p 18 (.p 21 (.p 22 (.p 27 (.p 28 (.x 29 .nil .none)))))) .none) .none)))) .none) .none)))))))))))))))))) (by kernel_rfl) ?_ (by kernel_rfl) ?_); (repeat (with_reducible first | exact PanicFree.body | exact PanicFree.np | exact PanicFree.lvS | apply PanicFree.then_ | apply PanicFree.blk)))
      | ((with_reducible apply J.draw (id := 9) [0, 1, 0, 4, 0, 16, 0, 64, 0, 256, 0, 1024, 0, 4096, 0, 16384, 3, 65551, 196671, 459007, 984063, 2035711, 4145151, 8388607] (.p 0 (.q 1 (.p 2 (.q 3 (.p 4 (.q 5 (.p 6 (.q 7 (.p 8 (.q 9 (.p 10 (.q 11 (.p 12 (.q 13 (.p 14 (.q 15 (.p 16 (.p 17 (.p 18 (.p 19 (.p 20 (.p 21 (.p 22 (.p 23 .nil)))))))))))))))))))))))) (by kernel_rfl) ?_ (by kernel_rfl) ?_); (repeat (with_reducible first | exact PanicFree.body | exact PanicFree.np | exact PanicFree.lvS | apply PanicFree.then_ | apply PanicFree.blk)))
      | ((with_reducible apply J.draw (id := 13) [0, 0, 2, 0, 14, 30, 0, 94, 254, 511, 0, 0, 3072, 0, 8192, 0, 57344, 130048, 262143, 0, 524288, 1572864, 4194303, 0, 8388608, 25165824, 67108863, 134217727] (.p 0 (.p 1 (.p 3 (.p 6 (.p 10 (.p 11 (.p 12 (.p 13 (.p 14 (.p 15 (.p 16 (.p 17 (.p 19 (.p 20 (.q 21 (.p 23 (.p 24 (.q 25 (.x 2 (.x 4 (.p 5 (.x 7 (.p 8 (.p 9 (.p 18 (.p 22 (.p 26 (.p 27 .nil)))))) .none)) .none) .none))))))))))))))))))) (by kernel_rfl) ?_ (by kernel_rfl) ?_); (repeat (with_reducible first | exact PanicFree.body | exact PanicFree.np | exact PanicFree.lvS | apply PanicFree.then_ | apply PanicFree.blk)))
      | ((with_reducible apply J.pl2); exact rfl; (first | exact Gd.none | ((with_reducible apply Gd.on); exact rfl; exact rfl)); (repeat (first | (with_reducible exact PendF.nil) | ((with_reducible apply PendF.keep); exact rfl) | ((with_reducible apply PendF.gone); exact rfl))))
      | ((with_reducible apply J.pl2_off); exact rfl; ((with_reducible apply Gd.off); exact rfl; exact rfl; exact rfl); exact rfl; (repeat (first | (with_reducible exact PendF.nil) | ((with_reducible apply PendF.keep); exact rfl) | ((with_reducible apply PendF.gone); exact rfl))))
      | ((with_reducible apply J.pl2_off_none); exact rfl; ((with_reducible apply Gd.off); exact rfl; exact rfl; exact rfl); (repeat (first | (with_reducible exact PendF.nil) | ((with_reducible apply PendF.keep); exact rfl) | ((with_reducible apply PendF.gone); exact rfl))))
      | ((with_reducible first | apply J.psplit0 | apply J.psplit1 | apply J.psplit2); exact rfl; exact rfl; exact rfl)
      | (with_reducible exact J.pl_none)
      | ((with_reducible apply J.gsplit); exact rfl; exact rfl)
      | ((with_reducible first | apply J.cond | apply JC.cond); exact rfl)
      | (intro h; exfalso; (first | (simp at h; done) | (simp at h; omega) | omega))
      | (intro h; (try simp only [decide_eq_true_eq, decide_eq_false_iff_not, beq_iff_eq, beq_eq_false_iff_ne, Bool.not_eq_true', Bool.not_eq_false', bne_iff_ne, bne_eq_false_iff_eq, ne_eq, ge_iff_le, gt_iff_lt] at h))
      | (with_reducible apply J.gave')
      | ((with_reducible apply J.kept'); rotate_left; (repeat (first | (with_reducible exact Outs.nil) | ((with_reducible apply Outs.cons); (repeat (first | with_reducible exact Out.here | with_reducible apply Out.there))))))
    apply J.loopI (σ := Nat) (I := fun q => q ≤ 64) (L := fun q => [(3, .pointer (some ⟨b3, 0, none⟩)), (4, .pointer (some ⟨b4, 0, none⟩)), (6, .pointer (some ⟨b6, 0, none⟩)), (7, .pointer (some ⟨b7, 0, none⟩)), (19, .int .i64 (q : Int)), (11, u32 ((Sha.rnds (sch l 48) s q) 0)), (12, u32 ((Sha.rnds (sch l 48) s q) 1)), (13, u32 ((Sha.rnds (sch l 48) s q) 2)), (14, u32 ((Sha.rnds (sch l 48) s q) 3)), (15, u32 ((Sha.rnds (sch l 48) s q) 4)), (16, u32 ((Sha.rnds (sch l 48) s q) 5)), (17, u32 ((Sha.rnds (sch l 48) s q) 6)), (18, u32 ((Sha.rnds (sch l 48) s q) 7))]) (HH := fun q => [blk b7 (tab (fun j => u32 (sch l 48 j)) 64) 198, blk b3 (st8 s) 197, blk b4 (tab (fun j => u32 (kw j)) 64) 198, blk b6 [.int .u32 0, .int .u32 0, .int .u32 0, .int .u32 0, .int .u32 0, .int .u32 0, .int .u32 0, .int .u32 0] 197]) (m := fun q => 64 - q) (s0 := 0)
    · ((try dsimp only); (exact Nat.zero_le _))
    · ((try dsimp only); repeat (first | exact sub.nil _ | (refine sub.consE rfl ?_ ?_; (first | with_reducible rfl | (fail) | rfl))))
    · ((try dsimp only); (repeat (first | (with_reducible exact Outs.nil) | ((with_reducible apply Outs.cons); (repeat (first | with_reducible exact Out.here | with_reducible apply Out.there))))))
    rintro i hJ
    try dsimp only at hJ ⊢
    repeat' first
      | (refine J.qv ?_; (with_reducible apply exq); focus (first
        | ((with_reducible apply Qv.indexArr); exact rfl; exact rfl; (constructor <;> omega); exact rfl)))
      | (refine J.qr ?_; (with_reducible apply exq); focus (first
        | ((with_reducible apply Qr.load1); exact rfl; (repeat (first | with_reducible exact In.here | with_reducible apply In.there)); (with_reducible refine tab_at (k := i) ?_ ?_); omega; omega)))
      | (refine J.qo ?_; refine ⟨?_, ?_⟩; focus (first
        | ((with_reducible apply Qr.load1); exact rfl; (repeat (first | with_reducible exact In.here | with_reducible apply In.there)); (with_reducible refine tab_at (k := i) ?_ ?_); omega; omega)))
      | ((with_reducible apply J.givesP (rturn _ 17)); exact rfl; exact rfl; decide)
      | ((with_reducible apply J.givesP (rturn _ 19)); exact rfl; exact rfl; decide)
      | ((with_reducible apply J.givesP (rturn _ 7)); exact rfl; exact rfl; decide)
      | ((with_reducible apply J.givesP (rturn _ 18)); exact rfl; exact rfl; decide)
      | ((with_reducible apply J.givesP (rturn _ 6)); exact rfl; exact rfl; decide)
      | ((with_reducible apply J.givesP (rturn _ 11)); exact rfl; exact rfl; decide)
      | ((with_reducible apply J.givesP (rturn _ 25)); exact rfl; exact rfl; decide)
      | ((with_reducible apply J.givesP (rturn _ 2)); exact rfl; exact rfl; decide)
      | ((with_reducible apply J.givesP (rturn _ 13)); exact rfl; exact rfl; decide)
      | ((with_reducible apply J.givesP (rturn _ 22)); exact rfl; exact rfl; decide)
      | refine J.one ?_
      | refine J.loudS ?_
      | (refine J.loudQ ?_; intro _ _)
      | (refine J.loudB ?_; intro _)
      | (with_reducible apply J.list)
      | ((with_reducible apply J.draw (id := 7) [0, 1, 3, 7, 0, 16, 48, 112, 15, 511] (.p 0 (.p 1 (.p 2 (.q 3 (.p 4 (.p 5 (.p 6 (.q 7 (.p 8 (.p 9 .nil)))))))))) (by kernel_rfl) ?_ (by kernel_rfl) ?_); (repeat (with_reducible first | exact PanicFree.body | exact PanicFree.np | exact PanicFree.lvS | apply PanicFree.then_ | apply PanicFree.blk)))
      | ((with_reducible apply J.draw (id := 8) [0, 0, 2, 0, 14, 30, 0, 64, 254, 0, 512, 1536, 3584, 8190, 0, 16414, 0, 114718, 245790, 0, 524288, 2080798, 4194302, 0, 8388608, 25165824, 58720256, 134217726, 268435455, 536870911] (.p 0 (.p 1 (.p 3 (.p 6 (.p 7 (.p 9 (.p 10 (.p 11 (.q 12 (.p 14 (.p 16 (.p 19 (.p 20 (.p 23 (.p 24 (.p 25 (.q 26 (.x 2 (.x 4 (.p 5 (.p 8 (.p 13 (.x 15 (.x 17 (.p 18 (.p 21 (.p 22 (.p 27 (.p 28 (.x 29 .nil .none)))))) .none) .none)))) .none) .none)))))))))))))))))) (by kernel_rfl) ?_ (by kernel_rfl) ?_); (repeat (with_reducible first | exact PanicFree.body | exact PanicFree.np | exact PanicFree.lvS | apply PanicFree.then_ | apply PanicFree.blk)))
      | ((with_reducible apply J.draw (id := 9) [0, 1, 0, 4, 0, 16, 0, 64, 0, 256, 0, 1024, 0, 4096, 0, 16384, 3, 65551, 196671, 459007, 984063, 2035711, 4145151, 8388607] (.p 0 (.q 1 (.p 2 (.q 3 (.p 4 (.q 5 (.p 6 (.q 7 (.p 8 (.q 9 (.p 10 (.q 11 (.p 12 (.q 13 (.p 14 (.q 15 (.p 16 (.p 17 (.p 18 (.p 19 (.p 20 (.p 21 (.p 22 (.p 23 .nil)))))))))))))))))))))))) (by kernel_rfl) ?_ (by kernel_rfl) ?_); (repeat (with_reducible first | exact PanicFree.body | exact PanicFree.np | exact PanicFree.lvS | apply PanicFree.then_ | apply PanicFree.blk)))
      | ((with_reducible apply J.draw (id := 13) [0, 0, 2, 0, 14, 30, 0, 94, 254, 511, 0, 0, 3072, 0, 8192, 0, 57344, 130048, 262143, 0, 524288, 1572864, 4194303, 0, 8388608, 25165824, 67108863, 134217727] (.p 0 (.p 1 (.p 3 (.p 6 (.p 10 (.p 11 (.p 12 (.p 13 (.p 14 (.p 15 (.p 16 (.p 17 (.p 19 (.p 20 (.q 21 (.p 23 (.p 24 (.q 25 (.x 2 (.x 4 (.p 5 (.x 7 (.p 8 (.p 9 (.p 18 (.p 22 (.p 26 (.p 27 .nil)))))) .none)) .none) .none))))))))))))))))))) (by kernel_rfl) ?_ (by kernel_rfl) ?_); (repeat (with_reducible first | exact PanicFree.body | exact PanicFree.np | exact PanicFree.lvS | apply PanicFree.then_ | apply PanicFree.blk)))
      | ((with_reducible apply J.pl2); exact rfl; (first | exact Gd.none | ((with_reducible apply Gd.on); exact rfl; exact rfl)); (repeat (first | (with_reducible exact PendF.nil) | ((with_reducible apply PendF.keep); exact rfl) | ((with_reducible apply PendF.gone); exact rfl))))
      | ((with_reducible apply J.pl2_off); exact rfl; ((with_reducible apply Gd.off); exact rfl; exact rfl; exact rfl); exact rfl; (repeat (first | (with_reducible exact PendF.nil) | ((with_reducible apply PendF.keep); exact rfl) | ((with_reducible apply PendF.gone); exact rfl))))
      | ((with_reducible apply J.pl2_off_none); exact rfl; ((with_reducible apply Gd.off); exact rfl; exact rfl; exact rfl); (repeat (first | (with_reducible exact PendF.nil) | ((with_reducible apply PendF.keep); exact rfl) | ((with_reducible apply PendF.gone); exact rfl))))
      | ((with_reducible first | apply J.psplit0 | apply J.psplit1 | apply J.psplit2); exact rfl; exact rfl; exact rfl)
      | (with_reducible exact J.pl_none)
      | ((with_reducible apply J.gsplit); exact rfl; exact rfl)
      | ((with_reducible first | apply J.cond | apply JC.cond); exact rfl)
      | (intro h; exfalso; (first | (simp at h; done) | (simp at h; omega) | omega))
      | (intro h; (try simp only [decide_eq_true_eq, decide_eq_false_iff_not, beq_iff_eq, beq_eq_false_iff_ne, Bool.not_eq_true', Bool.not_eq_false', bne_iff_ne, bne_eq_false_iff_eq, ne_eq, ge_iff_le, gt_iff_lt] at h))
      | (with_reducible apply J.gave')
      | ((with_reducible apply J.kept'); rotate_left; (repeat (first | (with_reducible exact Outs.nil) | ((with_reducible apply Outs.cons); (repeat (first | with_reducible exact Out.here | with_reducible apply Out.there))))))
    all_goals
      first
      | (apply J.againI (s := i) (s' := (i + 1)); (focus (omega)); (focus ((try dsimp only); omega)); (focus (((try dsimp only); repeat (first | exact sub.nil _ | (refine sub.consE rfl ?_ ?_; (first | with_reducible rfl | ((focus (first | (with_reducible exact congrArg u32 (rs0 _ _ _)) | (with_reducible exact congrArg u32 (rs1 _ _ _)) | (with_reducible exact congrArg u32 (rs2 _ _ _)) | (with_reducible exact congrArg u32 (rs3 _ _ _)) | (with_reducible exact congrArg u32 (rs4 _ _ _)) | (with_reducible exact congrArg u32 (rs5 _ _ _)) | (with_reducible exact congrArg u32 (rs6 _ _ _)) | (with_reducible exact congrArg u32 (rs7 _ _ _)) | (congr 1; omega)))) | rfl)))))); ((try dsimp only); (repeat (first | (with_reducible exact Outs.nil) | ((with_reducible apply Outs.cons); (repeat (first | with_reducible exact Out.here | with_reducible apply Out.there)))))))
      | (have e0 : i = 64 := by omega
         subst e0
         exact rfl)
      | (trace_state; fail)
end Go.Proofs.Ytfcaeifpclpnoaa.Rsum
