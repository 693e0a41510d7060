/-
  The reference: signatures, opened and verified. No conditions.
-/
import Derived.Test.YtljbedladifgmaaGreatQR4
import Derived.Test.YtljbedladifgmaaGreatQCut
namespace Go.Proofs.YtljbedladifgmaaGreat.R4b
open Go Go.RowKit Eng
set_option linter.unusedVariables false
set_option maxRecDepth 100000
set_option linter.unusedSimpArgs false
open Sha Iter Hash Bytes Hsum Ots Mss Rsum Rovr R4
set_option maxHeartbeats 1000000
theorem zip_take {α β γ : Type} {f : α → β → γ} : ∀ {l : List α} {m : List β} {i : Nat}, (List.zipWith f l m).take i = List.zipWith f (l.take i) (m.take i)
  | [], _, i => by simp
  | _ :: _, [], i => by simp
  | a :: l, b :: m, 0 => rfl
  | a :: l, b :: m, i + 1 => by
    show _ :: _ = _ :: _
    rw [zip_take]
theorem open_le {P : List (List UInt8)} {F : List Nat} {i : Nat} (h : ∀ j, j < i → (P.getD j []).length = 8) (hi : i ≤ P.length) : ((Ots.closedL P F).take i).flatten.length ≤ 8 * i := by
  unfold Ots.closedL
  rw [zip_take]
  have h1 := closedL_le (P := P.take i) (F := F.take i) fun p hp => by
    obtain ⟨j, hj, e⟩ := List.getElem_of_mem hp
    rw [List.length_take] at hj
    have h2 := h j (by omega)
    rw [List.getD_eq_getElem?_getD, List.getElem?_eq_getElem (by omega)] at h2
    rw [List.getElem_take] at e
    rw [← e]
    exact Nat.le_of_eq h2
  have h2 := flat_max h1
  unfold Ots.closedL at h2
  have h3 : (List.zipWith (fun p d => wk p (3 - d)) (P.take i) (F.take i)).length ≤ i := by simp; omega
  refine Nat.le_trans h2 (Nat.mul_le_mul_left _ h3)
theorem open_no {P : List (List UInt8)} {T : List UInt8} (h : P.length ≠ 15) : openF T P = [] := by unfold openF; exact if_neg (fun hc => absurd hc.1 h)
theorem open_no8 {P : List (List UInt8)} {T : List UInt8} {i : Nat} (hi : i < P.length) (h : (P.getD i []).length ≠ 8) : openF T P = [] := by
  unfold openF
  refine if_neg (fun hc => h (hc.2 _ ?_))
  rw [List.getD_eq_getElem?_getD, List.getElem?_eq_getElem hi]
  exact List.getElem_mem hi
theorem open_yes {P : List (List UInt8)} {T : List UInt8} (h15 : P.length = 15) (h : ∀ j, j < 15 → (P.getD j []).length = 8) : openF T P = short ((Ots.closedL P (dgs T)).take 15).flatten := by
  have e : (Ots.closedL P (dgs T)).take 15 = closedL P (dgs T) := List.take_of_length_le (by rw [closedL_length (by rw [dgs_length, h15]), h15]; exact Nat.le_refl _)
  unfold openF
  rw [e]
  refine if_pos ⟨h15, fun p hp => ?_⟩
  obtain ⟨j, hj, rfl⟩ := List.getElem_of_mem hp
  have h2 := h j (by omega)
  rw [List.getD_eq_getElem?_getD, List.getElem?_eq_getElem hj] at h2
  exact h2
theorem J.someX {c : Cx} {l : TL} {H : List Asrt} {G : Act → World → Prop} {ao : Option Addr} {n cap E sz : Nat} {C : List Value} (hm : In (row (.slice ao n cap) E sz n C) H) (hz : sz ≠ 0) (K : (0 < n → ao.isSome = true) → J c l H G) : J c l H G := J.mk fun a w s => by
  have h := s.2.2.rd_row hm
  refine (K fun hn => h.1.isSome fun e => ?_).out a w s
  have h2 := h.2.2.2.1
  rw [e] at h2
  have h3 : 0 = n * sz := h2
  rcases Nat.mul_eq_zero.1 h3.symm with h4 | h4 <;> omega
theorem ropen (aot : Option Addr) (nt capt : Nat) (T : List UInt8) (ao : Option Addr) (n cap : Nat) (P : List (List UInt8)) (w : World) (hw : (Rd w aot (bcs T) ∧ Rd w ao (scs P)) ∧ nt = T.length ∧ n = P.length ∧ T.length ≤ 1099511620000 ∧ P.length ≤ 1000) : CSpec Tryz.prog 146 [.slice aot nt capt, .slice ao n cap] [] w (Gives (str (openF T P))) := by
  obtain ⟨⟨hT, hP⟩, rfl, rfl, hl, hm⟩ := hw
  have hdl := dgs_length T
  refine spec_own0 Tryz.func146 rfl Tryz.ntmps146 rfl (l0 := [(0, .slice aot T.length capt), (1, .slice ao P.length cap)]) rfl ?_
  repeat' first
    | ((with_reducible apply J.freshR (rdigits _ _ _ T)); exact rfl; exact rfl; (focus (exact RH.and (RH.old hT) (RH.of ⟨rfl, hl⟩))); intro _ _)
    | refine J.one ?_
    | refine J.loudS ?_
    | (refine J.loudQ ?_; intro _ _)
    | (refine J.loudB ?_; intro _)
    | (with_reducible apply J.list)
    | ((with_reducible apply J.draw (id := 10) [0, 0, 0, 6, 14, 0, 0, 96, 224, 480, 1022, 2047, 4095] (.p 0 (.p 1 (.p 2 (.p 3 (.q 4 (.p 5 (.p 6 (.p 7 (.q 8 (.p 9 (.x 10 (.p 11 (.p 12 .nil)) .none))))))))))) (by kernel_rfl) ?_ (by kernel_rfl) ?_); (repeat (with_reducible first | exact PanicFree.body | exact PanicFree.np | exact PanicFree.lvS | apply PanicFree.then_ | apply PanicFree.blk)))
    | ((with_reducible apply J.pl2); exact rfl; (first | exact Gd.none | ((with_reducible apply Gd.on); exact rfl; exact rfl)); (first | exact pend_au | fail))
    | ((with_reducible apply J.pl2_off); exact rfl; ((with_reducible apply Gd.off); exact rfl; exact rfl; exact rfl); exact rfl; (first | exact pend_au | fail))
    | ((with_reducible apply J.pl2_off_none); exact rfl; ((with_reducible apply Gd.off); exact rfl; exact rfl; exact rfl); (first | exact pend_au | fail))
    | ((with_reducible first | apply J.psplit0 | apply J.psplit1 | apply J.psplit2); exact rfl; exact rfl; exact rfl)
    | (with_reducible exact J.pl_none)
    | ((with_reducible apply J.gsplit); exact rfl; exact rfl)
    | ((with_reducible first | apply J.cond | apply JC.cond); exact rfl)
    | (intro h; exfalso; (first | (simp at h; done) | (simp at h; omega) | omega))
    | (intro h; (try simp only [decide_eq_true_eq, decide_eq_false_iff_not, beq_iff_eq, beq_eq_false_iff_ne, Bool.not_eq_true', Bool.not_eq_false', bne_iff_ne, bne_eq_false_iff_eq, ne_eq, ge_iff_le, gt_iff_lt] at h))
    | (with_reducible apply J.gave')
    | ((with_reducible apply J.kept'); rotate_left; (first | exact outs_au | fail))
  · simp only [retv]
    rw [open_no (by omega)]
  rename_i q0 _
  have h15 : P.length = 15 := by omega
  have hao : ao.isSome = true := hP.isSome fun e => by
    have := congrArg List.length e
    rw [scs_length, h15] at this
    exact absurd this (by simp)
  (with_reducible apply J.someX (ao := q0.1) (n := 15) (E := 3) (C := ncs (dgs T)) (sz := 1) (by (first | exact in_au | fail)) (by decide); intro hq0)
  apply J.loopI (σ := Nat) (I := fun q => q ≤ 15 ∧ ∀ j, j < q → (P.getD j []).length = 8) (L := fun q => [(1, .slice ao P.length cap), (5, .slice q0.1 15 q0.2), (6, str ((Ots.closedL P (dgs T)).take q).flatten), (7, .int .i64 (q : Int))]) (HH := fun q => [row (.slice q0.1 15 q0.2) 3 1 15 (ncs (dgs T))]) (m := fun q => 15 - q) (s0 := 0)
  · ((try dsimp only); (exact ⟨Nat.zero_le _, fun j hj => by omega⟩))
  · ((try dsimp only); repeat (first | exact sub.nil _ | (refine sub.consE rfl ?_ ?_; (first | with_reducible rfl | (fail) | rfl))))
  · ((try dsimp only); (first | exact outs_au | fail))
  rintro i ⟨hi, h8⟩
  try dsimp only at *
  have hol := open_le (F := dgs T) h8 (by omega)
  rcases Nat.lt_or_ge i 15 with hlt | hge
  · obtain ⟨p, hp⟩ : ∃ p, P[i]? = some p := ⟨_, List.getElem?_eq_getElem (by omega)⟩
    obtain ⟨d, hd⟩ : ∃ d, (dgs T)[i]? = some d := ⟨_, List.getElem?_eq_getElem (by omega)⟩
    have hd3 : d ≤ 3 := dgs_le (List.mem_of_getElem? hd)
    have hpd : P.getD i [] = p := by rw [List.getD_eq_getElem?_getD, hp]; rfl
    have hwk : p.length = 8 → (wk p (3 - d)).length ≤ 8 := fun h => wk_le (Nat.le_of_eq h) (Nat.le_refl _) _
    have hsn : (Ots.closedL P (dgs T)).take (i + 1) = (Ots.closedL P (dgs T)).take i ++ [wk p (3 - d)] := take_snoc (closedL_get hp hd)
    repeat' first
      | (refine J.qv ?_; (with_reducible apply exq); focus (first
        | ((with_reducible apply Qv.indexSrcs (ao := ao) (k := i)); exact rfl; exact rfl; (focus omega); (focus omega); exact hao)
        | ((with_reducible apply Qv.indexSrcs (ao := q0.1) (k := i)); exact rfl; exact rfl; (focus omega); (focus omega); exact hq0 (by decide))
        | ((with_reducible apply Qv.sub); exact rfl; exact rfl; exact wr64 (z := ((3 - d : Nat) : Int)) (by omega) (by omega) (by omega))
        | ((with_reducible apply Qv.concat); exact rfl; exact rfl; (have h9 := hwk (by omega); omega))))
      | (refine J.qr ?_; (with_reducible apply exq); focus (first
        | ((with_reducible apply Qr.indexRd (k := i) (C := scs P)); exact rfl; exact rfl; exact rfl; omega; exact RH.old hP; (rw [scs_length]; omega))
        | ((with_reducible apply Qr.indexRd (k := i) (C := ncs (dgs T))); exact rfl; exact rfl; exact rfl; omega; exact RH.row (by (first | exact in_au | fail)); (rw [ncs_length, dgs_length]; omega))
        | ((with_reducible apply Qr.rd1 (C := scs P)); exact rfl; exact RH.old hP; (rw [Nat.mul_one]; exact scs_get hp))
        | ((with_reducible apply Qr.rd1 (C := ncs (dgs T))); exact rfl; exact RH.row (by (first | exact in_au | fail)); (rw [Nat.mul_one]; exact ncs_get hd))))
      | (refine J.qo ?_; refine ⟨?_, ?_⟩; focus (first
        | ((with_reducible apply Qr.indexRd (k := i) (C := scs P)); exact rfl; exact rfl; exact rfl; omega; exact RH.old hP; (rw [scs_length]; omega))
        | ((with_reducible apply Qr.indexRd (k := i) (C := ncs (dgs T))); exact rfl; exact rfl; exact rfl; omega; exact RH.row (by (first | exact in_au | fail)); (rw [ncs_length, dgs_length]; omega))
        | ((with_reducible apply Qr.rd1 (C := scs P)); exact rfl; exact RH.old hP; (rw [Nat.mul_one]; exact scs_get hp))
        | ((with_reducible apply Qr.rd1 (C := ncs (dgs T))); exact rfl; exact RH.row (by (first | exact in_au | fail)); (rw [Nat.mul_one]; exact ncs_get hd))))
      | ((with_reducible apply J.givesR (rwalk p (3 - d))); exact rfl; exact rfl; focus (exact RH.of ⟨by omega, by omega⟩))
      | ((with_reducible apply J.givesR (rshort _)); exact rfl; exact rfl; focus (exact RH.of (by omega)))
      | refine J.one ?_
      | refine J.loudS ?_
      | (refine J.loudQ ?_; intro _ _)
      | (refine J.loudB ?_; intro _)
      | (with_reducible apply J.list)
      | ((with_reducible apply J.draw (id := 10) [0, 0, 0, 6, 14, 0, 0, 96, 224, 480, 1022, 2047, 4095] (.p 0 (.p 1 (.p 2 (.p 3 (.q 4 (.p 5 (.p 6 (.p 7 (.q 8 (.p 9 (.x 10 (.p 11 (.p 12 .nil)) .none))))))))))) (by kernel_rfl) ?_ (by kernel_rfl) ?_); (repeat (with_reducible first | exact PanicFree.body | exact PanicFree.np | exact PanicFree.lvS | apply PanicFree.then_ | apply PanicFree.blk)))
      | ((with_reducible apply J.pl2); exact rfl; (first | exact Gd.none | ((with_reducible apply Gd.on); exact rfl; exact rfl)); (first | exact pend_au | fail))
      | ((with_reducible apply J.pl2_off); exact rfl; ((with_reducible apply Gd.off); exact rfl; exact rfl; exact rfl); exact rfl; (first | exact pend_au | fail))
      | ((with_reducible apply J.pl2_off_none); exact rfl; ((with_reducible apply Gd.off); exact rfl; exact rfl; exact rfl); (first | exact pend_au | fail))
      | ((with_reducible first | apply J.psplit0 | apply J.psplit1 | apply J.psplit2); exact rfl; exact rfl; exact rfl)
      | (with_reducible exact J.pl_none)
      | ((with_reducible apply J.gsplit); exact rfl; exact rfl)
      | ((with_reducible first | apply J.cond | apply JC.cond); exact rfl)
      | (intro h; exfalso; (first | (simp at h; done) | (simp at h; omega) | omega))
      | (intro h; (try simp only [decide_eq_true_eq, decide_eq_false_iff_not, beq_iff_eq, beq_eq_false_iff_ne, Bool.not_eq_true', Bool.not_eq_false', bne_iff_ne, bne_eq_false_iff_eq, ne_eq, ge_iff_le, gt_iff_lt] at h))
      | (with_reducible apply J.gave')
      | ((with_reducible apply J.kept'); rotate_left; (first | exact outs_au | fail))
    all_goals
      first
      | (simp only [retv]
         rw [open_no8 (i := i) (by omega) (by rw [hpd]; omega)]
         done)
      | ((apply J.againI (s := i) (s' := (i + 1)); (focus (omega)); (focus ((try dsimp only); (exact ⟨by omega, fun j hj => by rcases Nat.lt_or_ge j i with h9 | h9; exact h8 j h9; (have h10 : j = i := by omega); subst h10; rw [hpd]; omega⟩))); (focus (((try dsimp only); repeat (first | exact sub.nil _ | (refine sub.consE rfl ?_ ?_; (first | with_reducible rfl | ((focus (first | (rw [hsn]; simp only [List.flatten_append, List.flatten_cons, List.flatten_nil, List.append_nil]; done) | (congr 1; omega)))) | rfl)))))); ((try dsimp only); (first | exact outs_au | fail))))
      | (trace_state; fail)
  · obtain rfl : i = 15 := by omega
    repeat' first
      | (refine J.qv ?_; (with_reducible apply exq); focus (first
        | ((with_reducible apply Qv.sub); exact rfl; exact rfl; exact wr64 (z := ((3 - d : Nat) : Int)) (by omega) (by omega) (by omega))
        | ((with_reducible apply Qv.concat); exact rfl; exact rfl; omega)))
      | (refine J.qr ?_; (with_reducible apply exq); focus (first
        | ((with_reducible apply Qr.indexRd (k := i) (C := scs P)); exact rfl; exact rfl; exact rfl; omega; exact RH.old hP; (rw [scs_length]; omega))
        | ((with_reducible apply Qr.indexRd (k := i) (C := ncs (dgs T))); exact rfl; exact rfl; exact rfl; omega; exact RH.row (by (first | exact in_au | fail)); (rw [ncs_length, dgs_length]; omega))
        | ((with_reducible apply Qr.rd1 (C := scs P)); exact rfl; exact RH.old hP; (rw [Nat.mul_one]; exact scs_get hp))
        | ((with_reducible apply Qr.rd1 (C := ncs (dgs T))); exact rfl; exact RH.row (by (first | exact in_au | fail)); (rw [Nat.mul_one]; exact ncs_get hd))))
      | (refine J.qo ?_; refine ⟨?_, ?_⟩; focus (first
        | ((with_reducible apply Qr.indexRd (k := i) (C := scs P)); exact rfl; exact rfl; exact rfl; omega; exact RH.old hP; (rw [scs_length]; omega))
        | ((with_reducible apply Qr.indexRd (k := i) (C := ncs (dgs T))); exact rfl; exact rfl; exact rfl; omega; exact RH.row (by (first | exact in_au | fail)); (rw [ncs_length, dgs_length]; omega))
        | ((with_reducible apply Qr.rd1 (C := scs P)); exact rfl; exact RH.old hP; (rw [Nat.mul_one]; exact scs_get hp))
        | ((with_reducible apply Qr.rd1 (C := ncs (dgs T))); exact rfl; exact RH.row (by (first | exact in_au | fail)); (rw [Nat.mul_one]; exact ncs_get hd))))
      | ((with_reducible apply J.givesR (rwalk p (3 - d))); exact rfl; exact rfl; focus (exact RH.of ⟨by omega, by omega⟩))
      | ((with_reducible apply J.givesR (rshort _)); exact rfl; exact rfl; focus (exact RH.of (by omega)))
      | refine J.one ?_
      | refine J.loudS ?_
      | (refine J.loudQ ?_; intro _ _)
      | (refine J.loudB ?_; intro _)
      | (with_reducible apply J.list)
      | ((with_reducible apply J.draw (id := 10) [0, 0, 0, 6, 14, 0, 0, 96, 224, 480, 1022, 2047, 4095] (.p 0 (.p 1 (.p 2 (.p 3 (.q 4 (.p 5 (.p 6 (.p 7 (.q 8 (.p 9 (.x 10 (.p 11 (.p 12 .nil)) .none))))))))))) (by kernel_rfl) ?_ (by kernel_rfl) ?_); (repeat (with_reducible first | exact PanicFree.body | exact PanicFree.np | exact PanicFree.lvS | apply PanicFree.then_ | apply PanicFree.blk)))
      | ((with_reducible apply J.pl2); exact rfl; (first | exact Gd.none | ((with_reducible apply Gd.on); exact rfl; exact rfl)); (first | exact pend_au | fail))
      | ((with_reducible apply J.pl2_off); exact rfl; ((with_reducible apply Gd.off); exact rfl; exact rfl; exact rfl); exact rfl; (first | exact pend_au | fail))
      | ((with_reducible apply J.pl2_off_none); exact rfl; ((with_reducible apply Gd.off); exact rfl; exact rfl; exact rfl); (first | exact pend_au | fail))
      | ((with_reducible first | apply J.psplit0 | apply J.psplit1 | apply J.psplit2); exact rfl; exact rfl; exact rfl)
      | (with_reducible exact J.pl_none)
      | ((with_reducible apply J.gsplit); exact rfl; exact rfl)
      | ((with_reducible first | apply J.cond | apply JC.cond); exact rfl)
      | (intro h; exfalso; (first | (simp at h; done) | (simp at h; omega) | omega))
      | (intro h; (try simp only [decide_eq_true_eq, decide_eq_false_iff_not, beq_iff_eq, beq_eq_false_iff_ne, Bool.not_eq_true', Bool.not_eq_false', bne_iff_ne, bne_eq_false_iff_eq, ne_eq, ge_iff_le, gt_iff_lt] at h))
      | (with_reducible apply J.gave')
      | ((with_reducible apply J.kept'); rotate_left; (first | exact outs_au | fail))
    all_goals
      first
      | (simp only [retv]
         rw [open_yes h15 h8]
         done)
      | (trace_state; fail)
theorem pcs_at (sig : List UInt8) (i : Nat) : (sig.drop (1 + 8 * i)).take 8 = ((sig.drop 1).drop (8 * i)).take 8 := by rw [List.drop_drop]
theorem pcs_sc {sig : List UInt8} {i : Nat} : scs (pcs (sig.drop 1) i) ++ [str ((sig.drop (1 + 8 * i)).take 8)] = scs (pcs (sig.drop 1) (i + 1)) := by
  rw [pcs_succ, scs_append, ← pcs_at]
  rfl
noncomputable def stp (T sig : List UInt8) (j : Nat) : List UInt8 × Nat := cls (openF T ((pcs (sig.drop 1) 18).take 15)) (sig.headD 0).toNat (((pcs (sig.drop 1) 18).drop 15).take j)
theorem stp_s (T sig : List UInt8) {j : Nat} (h : j < 3) : stp T sig (j + 1) = clst (stp T sig j) ((sig.drop 1).drop (8 * (15 + j))  |>.take 8) := by
  unfold stp
  have e : ((pcs (sig.drop 1) 18).drop 15)[j]? = some (((sig.drop 1).drop (8 * (15 + j))).take 8) := by
    rw [List.getElem?_drop, pcs_get (by omega)]
  rw [take_snoc e, cls_snoc]
theorem stp_le (T sig : List UInt8) (j : Nat) : (stp T sig j).1.length ≤ 8 := cls_len (Nat.le_refl _) (openF_le _ _)
theorem stp_n (T sig : List UInt8) (j : Nat) : (stp T sig j).2 ≤ (sig.headD 0).toNat := cls_num
theorem stp_3 {T sig : List UInt8} (h : sig.length = 145) : upF T sig = (stp T sig 3).1 := by
  unfold upF stp
  rw [leaf_nat h]
  rfl
theorem vrf_y {root T sig : List UInt8} (h : sig.length = 145) (h2 : (sig.headD 0).toNat ≤ 7) (h3 : (stp T sig 3).1 = root) : vrf root T sig = (((sig.headD 0).toNat : Int), true) := by
  unfold vrf
  rw [if_pos ⟨h, by rw [leaf_nat h]; omega, by rw [stp_3 h]; exact h3⟩, leaf_nat h]
theorem vrf_n1 {root T sig : List UInt8} (h : sig.length ≠ 145) : vrf root T sig = (0, false) := if_neg (fun hc => h hc.1)
theorem vrf_n2 {root T sig : List UInt8} (h : sig.length = 145) (h2 : 7 < (sig.headD 0).toNat) : vrf root T sig = (0, false) := if_neg (fun hc => by have := hc.2.1; rw [leaf_nat h] at this; omega)
theorem vrf_n3 {root T sig : List UInt8} (h : sig.length = 145) (h3 : (stp T sig 3).1 ≠ root) : vrf root T sig = (0, false) := if_neg (fun hc => h3 (by rw [← stp_3 h]; exact hc.2.2))
theorem head0 {s : List UInt8} (h : s.length = 145) : s[0]? = some (s.headD 0) := head_get (by intro e; rw [e] at h; simp at h)
theorem RH.s15 {w0 : World} {own : List Nat} {H : List Asrt} {ao : Option Addr} {n m cap E k : Nat} {D : List (List UInt8)} (hm : In (Eng.row (.slice ao n cap) E 1 m (scs D)) H) : RH w0 own H (fun w => Rd w (offA ao (0 * 1) k) (scs (D.take 15))) := fun w s => by
  have h1 := (s.rd_row hm).1
  have h2 := h1.take 15
  have e : (scs D).take 15 = scs (D.take 15) := by simp [scs, List.map_take]
  rw [e] at h2
  have e2 : offA ao (0 * 1) k = ao := by
    unfold offA
    split
    · rfl
    · cases ao with
      | none => rfl
      | some a =>
        show some (a.add 0) = some a
        unfold Addr.add
        rw [if_pos rfl]
  rw [e2]
  exact h2
theorem st_even {x : List UInt8 × Nat} {p : List UInt8} (h : (x.2 : Int) % 2 = 0) : (clst x p).1 = short (x.1 ++ p) := if_pos (by omega)
theorem st_odd {x : List UInt8 × Nat} {p : List UInt8} (h : ¬ (x.2 : Int) % 2 = 0) : (clst x p).1 = short (p ++ x.1) := if_neg (by omega)
theorem q2 {x : Nat} (h : x ≤ 256) : IntKind.i64.wrap ((x : Int).tdiv 2) = ((x / 2 : Nat) : Int) := by
  rw [Int.tdiv_eq_ediv_of_nonneg (by omega)]
  exact wr64 (by omega) (by omega) (by omega)
theorem rverify (root : List UInt8) (ao : Option Addr) (n cap : Nat) (T sig : List UInt8) (w : World) (hw : Rd w ao (bcs T) ∧ n = T.length ∧ T.length ≤ 1099511620000) : CSpec Tryz.prog 119 [str root, .slice ao n cap, str sig] [] w (Gives (.tuple #[.int .i64 (vrf root T sig).1, .bool (vrf root T sig).2])) := by
  obtain ⟨hT, rfl, hl⟩ := hw
  have hb := (sig.headD 0).toNat_lt
  refine spec_own0 Tryz.func119 rfl Tryz.ntmps119 rfl (l0 := [(0, str root), (1, .slice ao T.length cap), (2, str sig)]) rfl ?_
  repeat' first
    | (refine J.qv ?_; (with_reducible apply exq); focus (first
      | ((with_reducible apply Qv.lenS8); exact rfl)
      | ((with_reducible apply Qv.idxS (n := 0)); exact rfl; exact rfl; exact rfl; exact head0 (by omega))))
    | refine J.one ?_
    | refine J.loudS ?_
    | (refine J.loudQ ?_; intro _ _)
    | (refine J.loudB ?_; intro _)
    | (with_reducible apply J.list)
    | ((with_reducible apply J.draw (id := 8) [0, 0, 2, 7, 0, 16, 48, 15, 255] (.p 0 (.p 1 (.p 2 (.p 4 (.p 5 (.p 6 (.x 3 (.p 7 (.p 8 .nil)) .none))))))) (by kernel_rfl) ?_ (by kernel_rfl) ?_); (repeat (with_reducible first | exact PanicFree.body | exact PanicFree.np | exact PanicFree.lvS | apply PanicFree.then_ | apply PanicFree.blk)))
    | ((with_reducible apply J.pl2); exact rfl; (first | exact Gd.none | ((with_reducible apply Gd.on); exact rfl; exact rfl)); (first | exact pend_au | fail))
    | ((with_reducible apply J.pl2_off); exact rfl; ((with_reducible apply Gd.off); exact rfl; exact rfl; exact rfl); exact rfl; (first | exact pend_au | fail))
    | ((with_reducible apply J.pl2_off_none); exact rfl; ((with_reducible apply Gd.off); exact rfl; exact rfl; exact rfl); (first | exact pend_au | fail))
    | ((with_reducible first | apply J.psplit0 | apply J.psplit1 | apply J.psplit2); exact rfl; exact rfl; exact rfl)
    | (with_reducible exact J.pl_none)
    | ((with_reducible apply J.gsplit); exact rfl; exact rfl)
    | ((with_reducible first | apply J.cond | apply JC.cond); exact rfl)
    | (intro h; exfalso; (first | (simp at h; done) | (simp at h; omega) | omega))
    | (intro h; (try simp only [decide_eq_true_eq, decide_eq_false_iff_not, beq_iff_eq, beq_eq_false_iff_ne, Bool.not_eq_true', Bool.not_eq_false', bne_iff_ne, bne_eq_false_iff_eq, ne_eq, ge_iff_le, gt_iff_lt] at h))
    | (with_reducible apply J.gave')
    | ((with_reducible apply J.kept'); rotate_left; (first | exact outs_au | fail))
  · simp only [retv]
    rw [vrf_n1 (by omega)]
  · simp only [retv]
    rw [vrf_n2 (by omega) (by omega)]
  have h145 : sig.length = 145 := by omega
  refine J.nilRow 9 1 ?_
  apply J.reR (E := 9) (v := .slice none 0 0) (n := 0) (C := []) (v' := .slice none 0 0) (n' := 0) (C' := scs (pcs (sig.drop 1) 0))
  · (repeat (first | with_reducible exact Upd.here | with_reducible apply Upd.there))
  · rfl
  · rfl
  · rfl
  apply J.loopI (σ := Nat × (Option Addr × Nat)) (I := fun s => s.1 ≤ 18) (L := fun s => [(0, str root), (1, .slice ao T.length cap), (2, str sig), (8, .slice s.2.1 s.1 s.2.2), (9, .int .i64 (s.1 : Int))]) (HH := fun s => [row (.slice s.2.1 s.1 s.2.2) 9 1 s.1 (scs (pcs (sig.drop 1) s.1))]) (m := fun s => 18 - s.1) (s0 := (0, (none, 0)))
  · ((try dsimp only); (exact Nat.zero_le _))
  · ((try dsimp only); repeat (first | exact sub.nil _ | (refine sub.consE rfl ?_ ?_; (first | with_reducible rfl | (fail) | rfl))))
  · ((try dsimp only); (first | exact outs_au | fail))
  rintro ⟨i, q⟩ hi
  try dsimp only at hi ⊢
  rcases Nat.lt_or_ge i 18 with hlt | hge
  · skip
    repeat' first
      | (refine J.qv ?_; (with_reducible apply exq); focus (first
        | ((with_reducible apply Qv.slS (p := 1 + 8 * i) (r := 9 + 8 * i)); exact rfl; exact Bd.some rfl (by omega); exact Bd.some rfl (by omega); omega; omega)))
      | refine J.one ?_
      | refine J.loudS ?_
      | (refine J.loudQ ?_; intro _ _)
      | (refine J.loudB ?_; intro _)
      | (with_reducible apply J.list)
      | ((with_reducible apply J.draw (id := 8) [0, 0, 2, 7, 0, 16, 48, 15, 255] (.p 0 (.p 1 (.p 2 (.p 4 (.p 5 (.p 6 (.x 3 (.p 7 (.p 8 .nil)) .none))))))) (by kernel_rfl) ?_ (by kernel_rfl) ?_); (repeat (with_reducible first | exact PanicFree.body | exact PanicFree.np | exact PanicFree.lvS | apply PanicFree.then_ | apply PanicFree.blk)))
      | ((with_reducible apply J.pl2); exact rfl; (first | exact Gd.none | ((with_reducible apply Gd.on); exact rfl; exact rfl)); (first | exact pend_au | fail))
      | ((with_reducible apply J.pl2_off); exact rfl; ((with_reducible apply Gd.off); exact rfl; exact rfl; exact rfl); exact rfl; (first | exact pend_au | fail))
      | ((with_reducible apply J.pl2_off_none); exact rfl; ((with_reducible apply Gd.off); exact rfl; exact rfl; exact rfl); (first | exact pend_au | fail))
      | ((with_reducible first | apply J.psplit0 | apply J.psplit1 | apply J.psplit2); exact rfl; exact rfl; exact rfl)
      | (with_reducible exact J.pl_none)
      | ((with_reducible apply J.gsplit); exact rfl; exact rfl)
      | ((with_reducible first | apply J.cond | apply JC.cond); exact rfl)
      | (intro h; exfalso; (first | (simp at h; done) | (simp at h; omega) | omega))
      | (intro h; (try simp only [decide_eq_true_eq, decide_eq_false_iff_not, beq_iff_eq, beq_eq_false_iff_ne, Bool.not_eq_true', Bool.not_eq_false', bne_iff_ne, bne_eq_false_iff_eq, ne_eq, ge_iff_le, gt_iff_lt] at h))
      | (with_reducible apply J.gave')
      | ((with_reducible apply J.kept'); rotate_left; (first | exact outs_au | fail))
    all_goals
      first
      | (rename_i q2 _
         apply J.reR (E := 9) (v := .slice q2.1 (i + 1) q2.2) (n := i + 1) (v' := .slice q2.1 (i + 1) q2.2) (n' := i + 1) (C' := scs (pcs (sig.drop 1) (i + 1)))
         · (repeat (first | with_reducible exact Upd.here | with_reducible apply Upd.there))
         · rfl
         · rfl
         · rw [show 9 + 8 * i - (1 + 8 * i) = 8 by omega]; exact pcs_sc
         (apply J.againI (s := (i, q)) (s' := (i + 1, q2)); (focus (((try dsimp only); omega))); (focus ((try dsimp only); (show i + 1 ≤ 18; omega))); (focus (((try dsimp only); repeat (first | exact sub.nil _ | (refine sub.consE rfl ?_ ?_; (first | with_reducible rfl | ((focus (congr 1; omega))) | rfl)))))); ((try dsimp only); (first | exact outs_au | fail))))
      | (trace_state; fail)
  obtain rfl : i = 18 := by omega
  (with_reducible apply J.capR (ao := q.1) (n := 18) (cap := q.2) (by (first | exact in_au | fail)); intro hcq)
  repeat' first
    | (refine J.qv ?_; (with_reducible apply exq); focus (first
      | ((with_reducible apply Qv.sl (p := 0) (r := 15)); exact rfl; exact Bd.none; exact Bd.some rfl rfl; omega; (first | omega | (rename_i hq9; omega)))
      | ((with_reducible apply Qv.idxS (n := 0)); exact rfl; exact rfl; exact rfl; exact head0 (by omega))
      | ((with_reducible apply Qv.conv); exact rfl; exact wr64 (z := (((sig.headD 0).toNat : Nat) : Int)) (by omega) (by omega) rfl)))
    | ((with_reducible apply J.givesR (ropen _ _ _ T _ _ _ ((pcs (sig.drop 1) 18).take 15))); exact rfl; exact rfl; focus (exact RH.and (RH.and (RH.old hT) (RH.s15 (by (first | exact in_au | fail)))) (RH.of ⟨rfl, by rw [List.length_take, pcs_length]; rfl, by omega, by rw [List.length_take, pcs_length]; omega⟩)))
    | refine J.one ?_
    | refine J.loudS ?_
    | (refine J.loudQ ?_; intro _ _)
    | (refine J.loudB ?_; intro _)
    | (with_reducible apply J.list)
    | ((with_reducible apply J.draw (id := 8) [0, 0, 2, 7, 0, 16, 48, 15, 255] (.p 0 (.p 1 (.p 2 (.p 4 (.p 5 (.p 6 (.x 3 (.p 7 (.p 8 .nil)) .none))))))) (by kernel_rfl) ?_ (by kernel_rfl) ?_); (repeat (with_reducible first | exact PanicFree.body | exact PanicFree.np | exact PanicFree.lvS | apply PanicFree.then_ | apply PanicFree.blk)))
    | ((with_reducible apply J.pl2); exact rfl; (first | exact Gd.none | ((with_reducible apply Gd.on); exact rfl; exact rfl)); (first | exact pend_au | fail))
    | ((with_reducible apply J.pl2_off); exact rfl; ((with_reducible apply Gd.off); exact rfl; exact rfl; exact rfl); exact rfl; (first | exact pend_au | fail))
    | ((with_reducible apply J.pl2_off_none); exact rfl; ((with_reducible apply Gd.off); exact rfl; exact rfl; exact rfl); (first | exact pend_au | fail))
    | ((with_reducible first | apply J.psplit0 | apply J.psplit1 | apply J.psplit2); exact rfl; exact rfl; exact rfl)
    | (with_reducible exact J.pl_none)
    | ((with_reducible apply J.gsplit); exact rfl; exact rfl)
    | ((with_reducible first | apply J.cond | apply JC.cond); exact rfl)
    | (intro h; exfalso; (first | (simp at h; done) | (simp at h; omega) | omega))
    | (intro h; (try simp only [decide_eq_true_eq, decide_eq_false_iff_not, beq_iff_eq, beq_eq_false_iff_ne, Bool.not_eq_true', Bool.not_eq_false', bne_iff_ne, bne_eq_false_iff_eq, ne_eq, ge_iff_le, gt_iff_lt] at h))
    | (with_reducible apply J.gave')
    | ((with_reducible apply J.kept'); rotate_left; (first | exact outs_au | fail))

  apply J.loopI (σ := Nat) (I := fun j => j ≤ 3) (L := fun j => [(0, str root), (2, str sig), (8, .slice q.1 18 q.2), (10, str (stp T sig j).1), (11, .int .i64 ((stp T sig j).2 : Int)), (12, .int .i64 (15 + (j : Int)))]) (HH := fun j => [row (.slice q.1 18 q.2) 9 1 18 (scs (pcs (sig.drop 1) 18))]) (m := fun j => 3 - j) (s0 := 0)
  · ((try dsimp only); (exact Nat.zero_le _))
  · ((try dsimp only); repeat (first | exact sub.nil _ | (refine sub.consE rfl ?_ ?_; (first | with_reducible rfl | ((focus rfl)) | rfl))))
  · ((try dsimp only); (first | exact outs_au | fail))
  rintro j hj
  try dsimp only at hj ⊢
  have hle := stp_le T sig j
  have hsn := stp_n T sig j
  rcases Nat.lt_or_ge j 3 with hlt | hge
  · obtain ⟨p, hp, hpe⟩ : ∃ p, (pcs (sig.drop 1) 18)[15 + j]? = some p ∧ p = ((sig.drop 1).drop (8 * (15 + j))).take 8 := ⟨_, pcs_get (by omega), rfl⟩
    have hpl : p.length ≤ 8 := by rw [hpe, List.length_take]; omega
    have hst : stp T sig (j + 1) = clst (stp T sig j) p := by rw [stp_s T sig hlt, hpe]
    have h2 : (stp T sig (j + 1)).2 = (stp T sig j).2 / 2 := by rw [hst]; rfl
    repeat' first
      | (refine J.qv ?_; (with_reducible apply exq); focus (first
        | ((with_reducible apply Qv.concat); exact rfl; exact rfl; omega)
        | ((with_reducible apply Qv.quo); exact rfl; exact rfl; decide; exact q2 (by omega))))
      | (refine J.qr ?_; (with_reducible apply exq); focus (first
        | ((with_reducible apply Qr.indexRd (k := 15 + j) (C := scs (pcs (sig.drop 1) 18))); exact rfl; exact rfl; (focus omega); omega; exact RH.row (by (first | exact in_au | fail)); (rw [scs_length, pcs_length]; omega))
        | ((with_reducible apply Qr.rd1 (C := scs (pcs (sig.drop 1) 18))); exact rfl; exact RH.row (by (first | exact in_au | fail)); (rw [Nat.mul_one]; exact scs_get hp))))
      | (refine J.qo ?_; refine ⟨?_, ?_⟩; focus (first
        | ((with_reducible apply Qr.indexRd (k := 15 + j) (C := scs (pcs (sig.drop 1) 18))); exact rfl; exact rfl; (focus omega); omega; exact RH.row (by (first | exact in_au | fail)); (rw [scs_length, pcs_length]; omega))
        | ((with_reducible apply Qr.rd1 (C := scs (pcs (sig.drop 1) 18))); exact rfl; exact RH.row (by (first | exact in_au | fail)); (rw [Nat.mul_one]; exact scs_get hp))))
      | ((with_reducible apply J.givesR (rshort _)); exact rfl; exact rfl; focus (exact RH.of (by rw [List.length_append]; omega)))
      | refine J.one ?_
      | refine J.loudS ?_
      | (refine J.loudQ ?_; intro _ _)
      | (refine J.loudB ?_; intro _)
      | (with_reducible apply J.list)
      | ((with_reducible apply J.draw (id := 8) [0, 0, 2, 7, 0, 16, 48, 15, 255] (.p 0 (.p 1 (.p 2 (.p 4 (.p 5 (.p 6 (.x 3 (.p 7 (.p 8 .nil)) .none))))))) (by kernel_rfl) ?_ (by kernel_rfl) ?_); (repeat (with_reducible first | exact PanicFree.body | exact PanicFree.np | exact PanicFree.lvS | apply PanicFree.then_ | apply PanicFree.blk)))
      | ((with_reducible apply J.pl2); exact rfl; (first | exact Gd.none | ((with_reducible apply Gd.on); exact rfl; exact rfl)); (first | exact pend_au | fail))
      | ((with_reducible apply J.pl2_off); exact rfl; ((with_reducible apply Gd.off); exact rfl; exact rfl; exact rfl); exact rfl; (first | exact pend_au | fail))
      | ((with_reducible apply J.pl2_off_none); exact rfl; ((with_reducible apply Gd.off); exact rfl; exact rfl; exact rfl); (first | exact pend_au | fail))
      | ((with_reducible first | apply J.psplit0 | apply J.psplit1 | apply J.psplit2); exact rfl; exact rfl; exact rfl)
      | (with_reducible exact J.pl_none)
      | ((with_reducible apply J.gsplit); exact rfl; exact rfl)
      | ((with_reducible first | apply J.cond | apply JC.cond); exact rfl)
      | (intro h; exfalso; (first | (simp at h; done) | (simp at h; omega) | omega))
      | (intro h; (try simp only [decide_eq_true_eq, decide_eq_false_iff_not, beq_iff_eq, beq_eq_false_iff_ne, Bool.not_eq_true', Bool.not_eq_false', bne_iff_ne, bne_eq_false_iff_eq, ne_eq, ge_iff_le, gt_iff_lt] at h))
      | (with_reducible apply J.gave')
      | ((with_reducible apply J.kept'); rotate_left; (first | exact outs_au | fail))
    all_goals
      first
      | (have e1 : (stp T sig (j + 1)).1 = short ((stp T sig j).1 ++ p) := by rw [hst]; exact st_even (by assumption)
         (apply J.againI (s := j) (s' := (j + 1)); (focus (omega)); (focus ((try dsimp only); omega)); (focus (((try dsimp only); repeat (first | exact sub.nil _ | (refine sub.consE rfl ?_ ?_; (first | with_reducible rfl | ((focus (first | (rw [e1]; done) | (rw [h2]; done) | (congr 1; omega)))) | rfl)))))); ((try dsimp only); (first | exact outs_au | fail))))
      | (have e1 : (stp T sig (j + 1)).1 = short (p ++ (stp T sig j).1) := by rw [hst]; exact st_odd (by assumption)
         (apply J.againI (s := j) (s' := (j + 1)); (focus (omega)); (focus ((try dsimp only); omega)); (focus (((try dsimp only); repeat (first | exact sub.nil _ | (refine sub.consE rfl ?_ ?_; (first | with_reducible rfl | ((focus (first | (rw [e1]; done) | (rw [h2]; done) | (congr 1; omega)))) | rfl)))))); ((try dsimp only); (first | exact outs_au | fail))))
      | (trace_state; fail)
  obtain rfl : j = 3 := by omega
  repeat' first
    | (refine J.qv ?_; (with_reducible apply exq); focus (first
      | ((with_reducible apply Qv.idxS (n := 0)); exact rfl; exact rfl; exact rfl; exact head0 (by omega))
      | ((with_reducible apply Qv.conv); exact rfl; exact wr64 (z := (((sig.headD 0).toNat : Nat) : Int)) (by omega) (by omega) rfl)))
    | refine J.one ?_
    | refine J.loudS ?_
    | (refine J.loudQ ?_; intro _ _)
    | (refine J.loudB ?_; intro _)
    | (with_reducible apply J.list)
    | ((with_reducible apply J.draw (id := 8) [0, 0, 2, 7, 0, 16, 48, 15, 255] (.p 0 (.p 1 (.p 2 (.p 4 (.p 5 (.p 6 (.x 3 (.p 7 (.p 8 .nil)) .none))))))) (by kernel_rfl) ?_ (by kernel_rfl) ?_); (repeat (with_reducible first | exact PanicFree.body | exact PanicFree.np | exact PanicFree.lvS | apply PanicFree.then_ | apply PanicFree.blk)))
    | ((with_reducible apply J.pl2); exact rfl; (first | exact Gd.none | ((with_reducible apply Gd.on); exact rfl; exact rfl)); (first | exact pend_au | fail))
    | ((with_reducible apply J.pl2_off); exact rfl; ((with_reducible apply Gd.off); exact rfl; exact rfl; exact rfl); exact rfl; (first | exact pend_au | fail))
    | ((with_reducible apply J.pl2_off_none); exact rfl; ((with_reducible apply Gd.off); exact rfl; exact rfl; exact rfl); (first | exact pend_au | fail))
    | ((with_reducible first | apply J.psplit0 | apply J.psplit1 | apply J.psplit2); exact rfl; exact rfl; exact rfl)
    | (with_reducible exact J.pl_none)
    | ((with_reducible apply J.gsplit); exact rfl; exact rfl)
    | ((with_reducible first | apply J.cond | apply JC.cond); exact rfl)
    | (intro h; exfalso; (first | (simp at h; done) | (simp at h; omega) | omega))
    | (intro h; (try simp only [decide_eq_true_eq, decide_eq_false_iff_not, beq_iff_eq, beq_eq_false_iff_ne, Bool.not_eq_true', Bool.not_eq_false', bne_iff_ne, bne_eq_false_iff_eq, ne_eq, ge_iff_le, gt_iff_lt] at h))
    | (with_reducible apply J.gave')
    | ((with_reducible apply J.kept'); rotate_left; (first | exact outs_au | fail))
  all_goals
    first
    | (simp only [retv]; rw [vrf_n3 h145 (by assumption)]; done)
    | (simp only [retv]; rw [vrf_y h145 (by omega) (by assumption)]; done)
    | (trace_state; fail)
end Go.Proofs.YtljbedladifgmaaGreat.R4b
