/-
  The reference: signatures. No conditions.
-/
import Derived.Test.YtljbedladifgmaaGreatQRovr
import Derived.Test.YtljbedladifgmaaGreatQMss
namespace Go.Proofs.YtljbedladifgmaaGreat.R4
open Go Go.RowKit Eng
set_option linter.unusedVariables false
set_option maxRecDepth 100000
set_option linter.unusedSimpArgs false
open Sha Iter Hash Bytes Hsum Ots Mss Rsum Rovr
set_option maxHeartbeats 1000000
theorem rwalk (s : List UInt8) (k : Nat) (w : World) (hw : k ≤ 3 ∧ s.length ≤ 1099511620000) : CSpec Tryz.prog 161 [str s, .int .i64 (k : Int)] [] w (Gives (str (wk s k))) := by
  obtain ⟨h3, hl⟩ := hw
  refine spec_own0 Tryz.func161 rfl Tryz.ntmps161 rfl (l0 := [(0, str s), (1, .int .i64 (k : Int))]) rfl ?_
  repeat' first
    | ((with_reducible apply J.givesR (rshort (wk s i))); exact rfl; exact rfl; focus (exact RH.of (by omega)))
    | refine J.one ?_
    | refine J.loudS ?_
    | (refine J.loudQ ?_; intro _ _)
    | (refine J.loudB ?_; intro _)
    | (with_reducible apply J.list)
    | ((with_reducible apply J.gsplit); exact rfl; exact rfl)
    | ((with_reducible first | apply J.cond | apply JC.cond); exact rfl)
    | (intro h; exfalso; (first | (simp at h; done) | (simp at h; omega) | omega))
    | (intro h; (try simp only [decide_eq_true_eq, decide_eq_false_iff_not, beq_iff_eq, beq_eq_false_iff_ne, Bool.not_eq_true', Bool.not_eq_false', bne_iff_ne, bne_eq_false_iff_eq, ne_eq, ge_iff_le, gt_iff_lt] at h))
    | (with_reducible apply J.gave')
    | ((with_reducible apply J.kept'); rotate_left; (first | exact outs_au | fail))
  apply J.loopI (σ := Nat) (I := fun q => (q ≤ k)) (L := fun q => [(0, str (wk s q)), (1, .int .i64 (k : Int)), (5, .int .i64 (q : Int))]) (HH := fun q => []) (m := fun q => k - q) (s0 := 0)
  · ((try dsimp only); (exact Nat.zero_le _))
  · ((try dsimp only); repeat (first | exact sub.nil _ | (refine sub.consE rfl ?_ ?_; (first | with_reducible rfl | (fail) | rfl))))
  · ((try dsimp only); (first | exact outs_au | fail))
  rintro i hI
  try dsimp only at hI ⊢
  have hwl := wk_le hl (by omega) i
  repeat' first
    | ((with_reducible apply J.givesR (rshort (wk s i))); exact rfl; exact rfl; focus (exact RH.of (by omega)))
    | refine J.one ?_
    | refine J.loudS ?_
    | (refine J.loudQ ?_; intro _ _)
    | (refine J.loudB ?_; intro _)
    | (with_reducible apply J.list)
    | ((with_reducible apply J.gsplit); exact rfl; exact rfl)
    | ((with_reducible first | apply J.cond | apply JC.cond); exact rfl)
    | (intro h; exfalso; (first | (simp at h; done) | (simp at h; omega) | omega))
    | (intro h; (try simp only [decide_eq_true_eq, decide_eq_false_iff_not, beq_iff_eq, beq_eq_false_iff_ne, Bool.not_eq_true', Bool.not_eq_false', bne_iff_ne, bne_eq_false_iff_eq, ne_eq, ge_iff_le, gt_iff_lt] at h))
    | (with_reducible apply J.gave')
    | ((with_reducible apply J.kept'); rotate_left; (first | exact outs_au | fail))
  all_goals
    first
    | (have e0 : i = k := by omega
       subst e0
       rfl)
    | (apply J.againI (s := i) (s' := (i + 1)); (focus (omega)); (focus ((try dsimp only); omega)); (focus (((try dsimp only); repeat (first | exact sub.nil _ | (refine sub.consE rfl ?_ ?_; (first | with_reducible rfl | ((focus (congr 1; omega))) | rfl)))))); ((try dsimp only); (first | exact outs_au | fail)))
    | (trace_state; fail)
def mI (l : List UInt8) (i : Nat) : Nat := be ((sha l).take i)
def dI (l : List UInt8) (i : Nat) : List Nat := sp (mI l i) (4 * i)
theorem dI_3 (l : List UInt8) : dI l 3 = dg1 l := rfl
theorem mI_s (l : List UInt8) {i : Nat} (h : i < 3) : mI l (i + 1) = mI l i * 256 + (oc (sha l) i).toNat := by
  unfold mI
  rw [be_take (by rw [sha_length]; omega)]
theorem dI_s (l : List UInt8) {i : Nat} (h : i < 3) : dI l (i + 1) = dI l i ++ [(oc (sha l) i).toNat / 64, (oc (sha l) i).toNat / 16 % 4, (oc (sha l) i).toNat / 4 % 4, (oc (sha l) i).toNat % 4] := by
  have hb := (oc (sha l) i).toNat_lt
  unfold dI
  rw [mI_s l h, show 4 * (i + 1) = 4 * i + 1 + 1 + 1 + 1 by omega, sp, sp, sp, sp]
  generalize (oc (sha l) i).toNat = x at *
  generalize mI l i = m
  rw [show (m * 256 + x) / 4 / 4 / 4 / 4 = m by omega, show (m * 256 + x) / 4 / 4 / 4 % 4 = x / 64 by omega, show (m * 256 + x) / 4 / 4 % 4 = x / 16 % 4 by omega, show (m * 256 + x) / 4 % 4 = x / 4 % 4 by omega, show (m * 256 + x) % 4 = x % 4 by omega]
  simp only [List.append_assoc, List.cons_append, List.nil_append]
theorem dI_sum (l : List UInt8) {i : Nat} (h : i < 3) : (dI l (i + 1)).sum = (dI l i).sum + (oc (sha l) i).toNat / 64 + (oc (sha l) i).toNat / 16 % 4 + (oc (sha l) i).toNat / 4 % 4 + (oc (sha l) i).toNat % 4 := by
  rw [dI_s l h]
  simp [List.sum_append]
  omega
theorem dI_le (l : List UInt8) {i : Nat} (h : i ≤ 3) : (dI l i).sum ≤ 36 := by
  have h1 := sum_le (l := dI l i) fun x hx => sp_le hx
  have h2 : (dI l i).length = 4 * i := sp_length _ _
  omega
theorem dI_cells (l : List UInt8) {i : Nat} (h : i < 3) : ncs (dI l i) ++ [Value.int .i64 (((oc (sha l) i).toNat : Int) / 64), .int .i64 (((oc (sha l) i).toNat : Int) / 16 % 4), .int .i64 (((oc (sha l) i).toNat : Int) / 4 % 4), .int .i64 (((oc (sha l) i).toNat : Int) % 4)] = ncs (dI l (i + 1)) := by
  rw [dI_s l h, ncs_append]
  rfl
theorem dgs_cells (l : List UInt8) {R : Int} (h : R = 36 - ((dI l 3).sum : Int)) : ncs (dI l 3) ++ [Value.int .i64 (R / 16), .int .i64 (R / 4 % 4), .int .i64 (R % 4)] = ncs (dgs l) := by
  have hs := dI_le l (Nat.le_refl 3)
  unfold dgs
  rw [ncs_append, ← dI_3]
  generalize (dI l 3).sum = S at *
  subst h
  congr 1
  have e1 : (36 - (S : Int)) / 16 = (((36 - S) / 4 / 4 % 4 : Nat) : Int) := by omega
  have e2 : (36 - (S : Int)) / 4 % 4 = (((36 - S) / 4 % 4 : Nat) : Int) := by omega
  have e3 : (36 - (S : Int)) % 4 = (((36 - S) % 4 : Nat) : Int) := by omega
  rw [e1, e2, e3]
  rfl
theorem slot5 {S S' x : Nat} (h : S' = S + x / 64 + x / 16 % 4 + x / 4 % 4 + x % 4) : Value.int .i64 (36 - (S : Int) - (x : Int) / 64 - (x : Int) / 16 % 4 - (x : Int) / 4 % 4 - (x : Int) % 4) = .int .i64 (36 - (S' : Int)) := by
  congr 1
  omega
theorem rdigits (ao : Option Addr) (n cap : Nat) (l : List UInt8) (w : World) (hw : Rd w ao (bcs l) ∧ n = l.length ∧ l.length ≤ 1099511620000) : CSpec Tryz.prog 160 [.slice ao n cap] [] w (Fresh 3 1 15 (ncs (dgs l)) []) := by
  obtain ⟨hr, rfl, hl⟩ := hw
  refine spec_own0 Tryz.func160 rfl Tryz.ntmps160 rfl (l0 := [(0, .slice ao l.length cap)]) rfl ?_
  repeat' first
    | ((with_reducible apply J.freshR (rsum _ _ _ l)); exact rfl; exact rfl; (focus (exact RH.and (RH.old hr) (RH.of ⟨rfl, hl⟩))); intro _ _)
    | refine J.one ?_
    | refine J.loudS ?_
    | (refine J.loudQ ?_; intro _ _)
    | (refine J.loudB ?_; intro _)
    | (with_reducible apply J.list)
    | ((with_reducible apply J.gsplit); exact rfl; exact rfl)
    | ((with_reducible first | apply J.cond | apply JC.cond); exact rfl)
    | (intro h; exfalso; (first | (simp at h; done) | (simp at h; omega) | omega))
    | (intro h; (try simp only [decide_eq_true_eq, decide_eq_false_iff_not, beq_iff_eq, beq_eq_false_iff_ne, Bool.not_eq_true', Bool.not_eq_false', bne_iff_ne, bne_eq_false_iff_eq, ne_eq, ge_iff_le, gt_iff_lt] at h))
    | (with_reducible apply J.gave')
    | ((with_reducible apply J.kept'); rotate_left; (first | exact outs_au | fail))
  rename_i qb hqb
  refine J.nilRow 3 1 ?_
  apply J.reR (E := 3) (v := .slice none 0 0) (n := 0) (C := []) (v' := .slice none (4 * 0) 0) (n' := 4 * 0) (C' := ncs (dI l 0))
  · (repeat (first | with_reducible exact Upd.here | with_reducible apply Upd.there))
  · rfl
  · rfl
  · rfl
  apply J.loopI (σ := Nat × (Option Addr × Nat)) (I := fun s => s.1 ≤ 3) (L := fun s => [(3, .slice qb.1 32 qb.2), (4, .slice s.2.1 (4 * s.1) s.2.2), (5, .int .i64 (36 - ((dI l s.1).sum : Int))), (6, .int .i64 (s.1 : Int))]) (HH := fun s => [row (.slice qb.1 32 qb.2) 5 1 32 (bcs (sha l)), row (.slice s.2.1 (4 * s.1) s.2.2) 3 1 (4 * s.1) (ncs (dI l s.1))]) (m := fun s => 3 - s.1) (s0 := (0, (none, 0)))
  · ((try dsimp only); (exact Nat.zero_le _))
  · ((try dsimp only); repeat (first | exact sub.nil _ | (refine sub.consE rfl ?_ ?_; (first | with_reducible rfl | (fail) | rfl))))
  · ((try dsimp only); (first | exact outs_au | fail))
  rintro ⟨i, q⟩ hI
  try dsimp only at hI ⊢
  have hb := (oc (sha l) i).toNat_lt
  have hs0 := dI_le l hI
  have hs1 : i < 3 → (dI l (i + 1)).sum = (dI l i).sum + (oc (sha l) i).toNat / 64 + (oc (sha l) i).toNat / 16 % 4 + (oc (sha l) i).toNat / 4 % 4 + (oc (sha l) i).toNat % 4 := fun h => dI_sum l h
  have hs2 : i < 3 → (dI l (i + 1)).sum ≤ 36 := fun h => dI_le l h
  rcases Nat.lt_or_ge i 3 with hlt | hge
  · have hs1 := hs1 hlt
    have hs2 := hs2 hlt
    repeat' first
      | (refine J.qr ?_; (with_reducible apply exq); focus (first
        | ((with_reducible apply Qr.indexRd (k := i) (C := bcs (sha l))); exact rfl; exact rfl; exact rfl; omega; exact RH.row (by (first | exact in_au | fail)); (rw [bcs_length, sha_length]; omega))
        | ((with_reducible apply Qr.rd1 (C := bcs (sha l))); exact rfl; exact RH.row (by (first | exact in_au | fail)); (rw [Nat.mul_one]; exact bcs_get (oc_get (by rw [sha_length]; omega))))))
      | refine J.one ?_
      | refine J.loudS ?_
      | (refine J.loudQ ?_; intro _ _)
      | (refine J.loudB ?_; intro _)
      | (with_reducible apply J.list)
      | ((with_reducible apply J.gsplit); exact rfl; exact rfl)
      | ((with_reducible first | apply J.cond | apply JC.cond); exact rfl)
      | (intro h; exfalso; (first | (simp at h; done) | (simp at h; omega) | omega))
      | (intro h; (try simp only [decide_eq_true_eq, decide_eq_false_iff_not, beq_iff_eq, beq_eq_false_iff_ne, Bool.not_eq_true', Bool.not_eq_false', bne_iff_ne, bne_eq_false_iff_eq, ne_eq, ge_iff_le, gt_iff_lt] at h))
      | (with_reducible apply J.gave')
      | ((with_reducible apply J.kept'); rotate_left; (first | exact outs_au | fail))
    all_goals
      first
      | (rename_i q2 _
         apply J.reR (E := 3) (v := .slice q2.1 (4 * i + 4) q2.2) (n := 4 * i + 4) (v' := .slice q2.1 (4 * (i + 1)) q2.2) (n' := 4 * (i + 1)) (C' := ncs (dI l (i + 1)))
         · (repeat (first | with_reducible exact Upd.here | with_reducible apply Upd.there))
         · exact reS (by omega)
         · omega
         · exact dI_cells l hlt
         (apply J.againI (s := (i, q)) (s' := (i + 1, q2)); (focus (((try dsimp only); omega))); (focus ((try dsimp only); (show i + 1 ≤ 3; omega))); (focus (((try dsimp only); repeat (first | exact sub.nil _ | (refine sub.consE rfl ?_ ?_; (first | with_reducible rfl | ((focus (first | exact slot5 hs1 | exact reS (by omega) | (congr 1; omega)))) | rfl)))))); ((try dsimp only); (first | exact outs_au | fail))))
      | (trace_state; fail)
  · obtain rfl : i = 3 := by omega
    repeat' first
      | (refine J.qr ?_; (with_reducible apply exq); focus (first
        | ((with_reducible apply Qr.indexRd (k := i) (C := bcs (sha l))); exact rfl; exact rfl; exact rfl; omega; exact RH.row (by (first | exact in_au | fail)); (rw [bcs_length, sha_length]; omega))
        | ((with_reducible apply Qr.rd1 (C := bcs (sha l))); exact rfl; exact RH.row (by (first | exact in_au | fail)); (rw [Nat.mul_one]; exact bcs_get (oc_get (by rw [sha_length]; omega))))))
      | refine J.one ?_
      | refine J.loudS ?_
      | (refine J.loudQ ?_; intro _ _)
      | (refine J.loudB ?_; intro _)
      | (with_reducible apply J.list)
      | ((with_reducible apply J.gsplit); exact rfl; exact rfl)
      | ((with_reducible first | apply J.cond | apply JC.cond); exact rfl)
      | (intro h; exfalso; (first | (simp at h; done) | (simp at h; omega) | omega))
      | (intro h; (try simp only [decide_eq_true_eq, decide_eq_false_iff_not, beq_iff_eq, beq_eq_false_iff_ne, Bool.not_eq_true', Bool.not_eq_false', bne_iff_ne, bne_eq_false_iff_eq, ne_eq, ge_iff_le, gt_iff_lt] at h))
      | (with_reducible apply J.gave')
      | ((with_reducible apply J.kept'); rotate_left; (first | exact outs_au | fail))
    all_goals
      first
      | ((with_reducible apply J.freshRow); (repeat (first | with_reducible exact Out.here | with_reducible apply Out.there)); exact rfl; exact rfl; exact dgs_cells l rfl)
      | (trace_state; fail)
end Go.Proofs.YtljbedladifgmaaGreat.R4
