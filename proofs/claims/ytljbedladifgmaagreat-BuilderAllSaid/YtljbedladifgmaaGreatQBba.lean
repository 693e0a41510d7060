/-
  The law BuilderAll. No conditions.
-/
import Derived.Test.YtljbedladifgmaaGreatQBld2
import Derived.Test.YtljbedladifgmaaGreatQBbu
import Derived.Test.YtljbedladifgmaaGreatQCut
namespace Go.Proofs.YtljbedladifgmaaGreat.Bld3
open Go Go.RowKit Eng
set_option linter.unusedVariables false
set_option maxRecDepth 100000
set_option linter.unusedSimpArgs false
open Wide Tx Bld Bld2
set_option maxHeartbeats 4000000
theorem all_take {C : List Value} {n : Nat} (h : C.length = n) : (C.drop 0).take n = C := by rw [List.drop_zero]; exact List.take_of_length_le (Nat.le_of_eq h)
theorem rst_in {o : List Nat} {i : Nat} (h : o.contains i = true) : rst o i = rst o (i + 1) := by rw [rst, if_pos h]
theorem rst_out {o : List Nat} {i : Nat} (h : o.contains i = false) : rst o i ++ [i] = rst o (i + 1) := by rw [rst, h]; rfl
/-- The second one is opened. -/
theorem rowV2 {P : Program} {f : Nat} {args : List Value} {w : World} {R : Ending → List Asrt → Prop} {A : Asrt} {v : Value} {n E sz : Nat} {C : List Value} {H1 : List Asrt} (K : ∀ ao cap, v = .slice ao n cap → Srcs (Eng.row v E sz n C) ao sz n (fun i => (C.drop (i * sz)).take sz) → CSpec P f args (A :: Eng.row v E sz n C :: H1) w R) : CSpec P f args (A :: Eng.row v E sz n C :: H1) w R := by
  rintro fp ⟨f1, g1, rfl, h1, f2, g2, rfl, h2, h5⟩ h3 h4
  obtain ⟨ao, cap, e, hs⟩ := row_srcs h2
  exact K ao cap e hs (f1 ++ (f2 ++ g2)) ⟨f1, f2 ++ g2, rfl, h1, f2, g2, rfl, h2, h5⟩ h3 h4

theorem stuckC (A : Asrt) (ao : Option Addr) (cap n : Nat) (T : Nat → Tx) (ns : Nat → Int) (S : List Value) (h : (Srcs A ao 25 n (fun i => (T i).cells) ∧ (∀ i, i < n → (T i).In) ∧ n ≤ 1000) ∧ (S.drop 130).take 8 = nv ns ∧ S.length = 151) (w : World) : CSpec Tryz.prog 42 [.agg S.toArray, .slice ao n cap] [A] w (Fresh 3 1 (rst (run T n n ns []) n).length (iv (rst (run T n n ns []) n)) [A]) := by
  obtain ⟨⟨hS, hT, hn⟩, hN, hL⟩ := h
  refine spec_of Tryz.func42 rfl Tryz.ntmps42 rfl (l0 := [(0, .agg S.toArray), (1, .slice ao n cap)]) rfl ?_
  intro fp
  repeat' first
    | (refine J.qr ?_; (with_reducible apply exq); focus (first
      | ((with_reducible apply Qr.loadN); exact rfl; (repeat (first | with_reducible exact In.here | with_reducible apply In.there)); exact all_take hL; exact hL)))
    | ((with_reducible apply J.freshP (order A ao cap n T ns S)); exact rfl; exact rfl; (repeat (first | (with_reducible exact Outs.nil) | ((with_reducible apply Outs.cons); (repeat (first | with_reducible exact Out.here | with_reducible apply Out.there))))); (exact ⟨hS, hT, hn, hN⟩); intro _)
    | ((with_reducible apply J.keepsP (contains (row (.slice vo R.length vc) 3 1 R.length (iv R)) vo vc R i)); exact rfl; exact rfl; (repeat (first | (with_reducible exact Outs.nil) | ((with_reducible apply Outs.cons); (repeat (first | with_reducible exact Out.here | with_reducible apply Out.there))))); (exact ⟨by omega, hR⟩))
    | refine J.one ?_
    | refine J.loudS ?_
    | (refine J.loudQ ?_; intro _ _)
    | (refine J.loudB ?_; intro _)
    | (with_reducible apply J.list)
    | ((with_reducible apply J.gsplit); exact rfl; exact rfl)
    | ((with_reducible first | apply J.cond | apply JC.cond); exact rfl)
    | (intro h; exfalso; (first | (simp at h; done) | omega))
    | (intro h; (try simp only [decide_eq_true_eq, decide_eq_false_iff_not, beq_iff_eq, beq_eq_false_iff_ne, Bool.not_eq_true', Bool.not_eq_false', bne_iff_ne, bne_eq_false_iff_eq, ne_eq, ge_iff_le, gt_iff_lt] at h))
    | (with_reducible apply J.gave')
    | ((with_reducible apply J.kept'); rotate_left; (repeat (first | (with_reducible exact Outs.nil) | ((with_reducible apply Outs.cons); (repeat (first | with_reducible exact Out.here | with_reducible apply Out.there))))))
  rename_i b2 v5
  obtain ⟨R, hRe⟩ : ∃ R, R = run T n n ns [] := ⟨_, rfl⟩
  simp only [← hRe]
  have hRl : R.length ≤ n := by
    have := run_len (T := T) (n := n) (k := n) (ns := ns) (o := [])
    rw [← hRe] at this
    simpa using this
  apply J.rowV (v := v5) (n := R.length) (E := 3) (sz := 1) (C := iv R)
  · (repeat (first | with_reducible exact In.here | with_reducible apply In.there))
  rintro vo vc rfl hR
  have hq : ∀ i, (rst R i).length ≤ i := fun i => rst_len i
  apply J.nilRowN 3 1 (rst R 0).length (iv (rst R 0))
  · rfl
  · rfl
  apply J.loopI (σ := Nat × Value) (I := fun s => s.1 ≤ n) (L := fun s => [(5, .slice vo R.length vc), (6, s.2), (12, .int .i64 (n : Int)), (13, .int .i64 (s.1 : Int))]) (HH := fun s => [A, row (.slice vo R.length vc) 3 1 R.length (iv R), row s.2 3 1 (rst R s.1).length (iv (rst R s.1))]) (m := fun s => n - s.1) (s0 := (0, .slice none 0 0))
  · ((try dsimp only); (exact Nat.zero_le _))
  · ((try dsimp only); repeat (first | exact sub.nil _ | (refine sub.consE rfl ?_ ?_; (first | with_reducible rfl | ((focus (congr 1; omega))) | rfl))))
  · ((try dsimp only); (repeat (first | (with_reducible exact Outs.nil) | ((with_reducible apply Outs.cons); (repeat (first | with_reducible exact Out.here | with_reducible apply Out.there))))))
  rintro ⟨i, v2⟩ hi
  try dsimp only at hi ⊢
  have hqi := hq i
  repeat' first
    | (refine J.qr ?_; (with_reducible apply exq); focus (first
      | ((with_reducible apply Qr.loadN); exact rfl; (repeat (first | with_reducible exact In.here | with_reducible apply In.there)); exact all_take hL; exact hL)))
    | ((with_reducible apply J.freshP (order A ao cap n T ns S)); exact rfl; exact rfl; (repeat (first | (with_reducible exact Outs.nil) | ((with_reducible apply Outs.cons); (repeat (first | with_reducible exact Out.here | with_reducible apply Out.there))))); (exact ⟨hS, hT, hn, hN⟩); intro _)
    | ((with_reducible apply J.keepsP (contains (row (.slice vo R.length vc) 3 1 R.length (iv R)) vo vc R i)); exact rfl; exact rfl; (repeat (first | (with_reducible exact Outs.nil) | ((with_reducible apply Outs.cons); (repeat (first | with_reducible exact Out.here | with_reducible apply Out.there))))); (exact ⟨by omega, hR⟩))
    | refine J.one ?_
    | refine J.loudS ?_
    | (refine J.loudQ ?_; intro _ _)
    | (refine J.loudB ?_; intro _)
    | (with_reducible apply J.list)
    | ((with_reducible apply J.gsplit); exact rfl; exact rfl)
    | ((with_reducible first | apply J.cond | apply JC.cond); exact rfl)
    | (intro h; exfalso; (first | (simp at h; done) | omega))
    | (intro h; (try simp only [decide_eq_true_eq, decide_eq_false_iff_not, beq_iff_eq, beq_eq_false_iff_ne, Bool.not_eq_true', Bool.not_eq_false', bne_iff_ne, bne_eq_false_iff_eq, ne_eq, ge_iff_le, gt_iff_lt] at h))
    | (with_reducible apply J.gave')
    | ((with_reducible apply J.kept'); rotate_left; (repeat (first | (with_reducible exact Outs.nil) | ((with_reducible apply Outs.cons); (repeat (first | with_reducible exact Out.here | with_reducible apply Out.there))))))
  all_goals
    first
    | (exfalso; omega)
    | (obtain rfl : i = n := by omega
       with_reducible apply J.fresh'
       · (repeat (first | (with_reducible exact Outs.nil) | ((with_reducible apply Outs.cons); (repeat (first | with_reducible exact Out.here | with_reducible apply Out.there)))))
       · rfl)
    | (apply J.reC (v := v2) (E := 3) (sz := 1) (n := (rst R i).length) (C := iv (rst R i)) (n' := (rst R (i + 1)).length) (C' := iv (rst R (i + 1)))
       · (repeat (first | with_reducible exact Upd.here | with_reducible apply Upd.there))
       · (rw [rst_in (by assumption)])
       · (rw [rst_in (by assumption)])
       (apply J.againI (s := (i, v2)) (s' := (i + 1, v2)); (focus (((try dsimp only); omega))); (focus ((try dsimp only); ((try dsimp only); omega))); (focus (((try dsimp only); repeat (first | exact sub.nil _ | (refine sub.consE rfl ?_ ?_; (first | with_reducible rfl | ((focus (congr 1; omega))) | rfl)))))); ((try dsimp only); (repeat (first | (with_reducible exact Outs.nil) | ((with_reducible apply Outs.cons); (repeat (first | with_reducible exact Out.here | with_reducible apply Out.there))))))))
    | (rename_i q2 hq2
       apply J.reC (v := (.slice q2.1 ((rst R i).length + 1) q2.2)) (E := 3) (sz := 1) (n := (rst R i).length + 1) (C := iv (rst R i) ++ [.int .i64 (i : Int)]) (n' := (rst R (i + 1)).length) (C' := iv (rst R (i + 1)))
       · (repeat (first | with_reducible exact Upd.here | with_reducible apply Upd.there))
       · (rw [← rst_out (by assumption), List.length_append]; rfl)
       · (rw [← rst_out (by assumption), iv_add])
       (apply J.againI (s := (i, v2)) (s' := (i + 1, (.slice q2.1 ((rst R i).length + 1) q2.2))); (focus (((try dsimp only); omega))); (focus ((try dsimp only); ((try dsimp only); omega))); (focus (((try dsimp only); repeat (first | exact sub.nil _ | (refine sub.consE rfl ?_ ?_; (first | with_reducible rfl | ((focus (congr 1; omega))) | rfl)))))); ((try dsimp only); (repeat (first | (with_reducible exact Outs.nil) | ((with_reducible apply Outs.cons); (repeat (first | with_reducible exact Out.here | with_reducible apply Out.there))))))))
    | (trace_state; fail)
end Go.Proofs.YtljbedladifgmaaGreat.Bld3
namespace Go.Proofs.YtljbedladifgmaaGreat.Bal
open Go Go.RowKit Eng
set_option linter.unusedVariables false
set_option maxRecDepth 100000
set_option linter.unusedSimpArgs false
open Wide Purse Tx Sha Ss Esc Vau Lck Do Prep Ful Doo Tri App Inn Low Gene Alv Kee Txl Cht Chn Chm Chw Chi Chx Civ Ali Sty Bb Alb Bbu Deal Mss Ots Hash Bytes
set_option maxHeartbeats 1000000
theorem tkR1 (ns : Nat → Int) (a x : Int) (j : Nat) : (tkR ns a 1 x).1 (2 * j) = ns (2 * j) := by
  unfold tkR
  repeat' split
  all_goals first
    | rfl
    | (show upd _ _ _ _ = _
       unfold upd
       rw [if_neg (by omega)])
theorem gvR1 (ns : Nat → Int) (a x : Int) (j : Nat) : (gvR ns a 1 x).1 (2 * j) = ns (2 * j) := by
  unfold gvR
  repeat' split
  all_goals first
    | rfl
    | (show upd _ _ _ _ = _
       unfold upd
       rw [if_neg (by omega)])
theorem mvR1 (ns : Nat → Int) (a b x : Int) (j : Nat) : (mvR ns a b 1 x).1 (2 * j) = ns (2 * j) := by
  unfold mvR
  repeat' split
  all_goals first
    | rfl
    | exact (gvR1 _ _ _ _).trans (tkR1 _ _ _ _)
    | exact tkR1 _ _ _ _
/-- Coins enough. -/
structure Rich (s : SS) (c : Nat) : Prop where
  pu : ∀ j, j < 8 → (c : Int) ≤ s.pu (2 * j)
  bu : s.bu + (c : Int) < 115792089237316195423570985008687907853269984665640564039457584007913129639936
/-- A plain one. -/
structure Pl (t : Tx) : Prop where
  ki : t.ki = 1
  a : t.at_ = 1
  c : chk t = 0
theorem pl_ap {s : SS} {L : List Lk} {t : Tx} {c : Nat} (h : Rich s (c + 1)) (ht : Pl t) (hn : t.no = s.no t.fr.toNat) : (apF s L t).ok = true ∧ Rich (apF s L t).s c ∧ (apF s L t).s.no = upd s.no t.fr.toNat (s.no t.fr.toNat + 1) ∧ (apF s L t).L = L := by
  have hf := chk_fr ht.c
  have h1 : inA t.fr 0 = true := inA_iff.2 ⟨hf.1, by omega, by decide, by decide⟩
  have h2 := h.pu t.fr.toNat (by omega)
  have h3 := h.bu
  have e1 : tkR s.pu t.fr 0 1 = (upd s.pu (2 * t.fr.toNat) (s.pu (2 * t.fr.toNat) - 1), 0) := by
    unfold tkR
    rw [if_pos h1]
    show (if 1 ≤ s.pu (2 * t.fr.toNat + 0) then _ else _) = _
    rw [if_pos (by rw [Nat.add_zero]; omega)]
    rfl
  have e2 : s1F s t = SS.wNo (SS.wBu (SS.wPu s (upd s.pu (2 * t.fr.toNat) (s.pu (2 * t.fr.toNat) - 1))) (s.bu + 1)) t.fr.toNat (s.no t.fr.toNat + 1) := by
    unfold s1F
    rw [e1, wadd_lt (by omega)]
    rfl
  have r1 : Rich (s1F s t) c := by
    rw [e2]
    refine ⟨fun j hj => ?_, ?_⟩
    · show _ ≤ upd _ _ _ _
      unfold upd
      have := h.pu j hj
      split <;> omega
    · show s.bu + 1 + (c : Int) < _
      omega
  have n1 : (s1F s t).no = upd s.no t.fr.toNat (s.no t.fr.toNat + 1) := by rw [e2]; rfl
  have d1 : (doX (s1F s t) L t).2.pu = (mvR (s1F s t).pu t.fr t.to t.at_ t.am).1 ∧ (doX (s1F s t) L t).2.bu = (s1F s t).bu ∧ (doX (s1F s t) L t).2.no = (s1F s t).no := by
    unfold doX
    rw [if_pos ht.ki]
    exact ⟨rfl, rfl, rfl⟩
  have l1 : doL L t = L := by
    unfold doL
    rw [if_neg (by rw [ht.ki]; decide), if_neg (by rw [ht.ki]; decide), if_neg (by rw [ht.ki]; decide)]
  unfold apF
  rw [if_pos ht.c, if_pos hn, if_pos ⟨by rw [e1], by omega⟩]
  split
  · refine ⟨rfl, ⟨fun j hj => ?_, ?_⟩, d1.2.2.trans n1, l1⟩
    · show _ ≤ (doX (s1F s t) L t).2.pu (2 * j)
      rw [d1.1, ht.a, mvR1]
      exact r1.pu j hj
    · show (doX (s1F s t) L t).2.bu + _ < _
      rw [d1.2.1]
      exact r1.bu
  · exact ⟨rfl, r1, n1, rfl⟩
theorem pl_no {s : SS} {L : List Lk} {t : Tx} (ht : Pl t) (hn : ¬ t.no = s.no t.fr.toNat) : (apF s L t).ok = false := by
  unfold apF
  rw [if_pos ht.c, if_neg hn]
theorem rich_gen (side time : Int) : Rich (genS side time) 1000 := ⟨fun j hj => (by show (1000 : Int) ≤ 1000; decide), by show (0 : Int) + 1000 < _; decide⟩
/-- Included just if it is its sender's next one. -/
theorem pl_inc {k : CS} {c j : Nat} (h : Rich k.s (c + 1)) (hP : ∀ t, t ∈ k.P → Pl t) (hj : j < k.P.length) : incOk k (j : Int) = decide ((k.P.getD j tx0).no = k.s.no (k.P.getD j tx0).fr.toNat) := by
  have hp : Pl (k.P.getD j tx0) := hP _ (by rw [List.getD_eq_getElem?_getD, List.getElem?_eq_getElem hj]; exact List.getElem_mem hj)
  rw [incOk_A (by omega), ← apAt hj]
  by_cases hn : (k.P.getD j tx0).no = k.s.no (k.P.getD j tx0).fr.toNat
  · rw [(pl_ap h hp hn).1, decide_eq_true hn]
  · rw [pl_no hp hn, decide_eq_false hn]
end Go.Proofs.YtljbedladifgmaaGreat.Bal
namespace Go.Proofs.YtljbedladifgmaaGreat.Bam
open Go Go.RowKit Eng
set_option linter.unusedVariables false
set_option maxRecDepth 100000
set_option linter.unusedSimpArgs false
open Wide Purse Tx Sha Ss Esc Vau Lck Do Prep Ful Doo Tri App Inn Low Gene Alv Kee Txl Cht Chn Chm Chw Chi Chx Civ Ali Sty Bb Alb Bbu Bal Deal Mss Ots Hash Bytes
set_option maxHeartbeats 1000000
open Bld (rst run nxt fst bump rdy)
theorem has_add {o : List Nat} {i j : Nat} (h : j ≠ i) : (o ++ [i]).contains j = o.contains j := by
  rw [Bool.eq_iff_iff, List.contains_iff_mem, List.contains_iff_mem]
  simp [h]
theorem rst_same {o : List Nat} {i : Nat} : ∀ {m : Nat}, m ≤ i → rst (o ++ [i]) m = rst o m
  | 0, _ => rfl
  | m + 1, h => by rw [rst, rst, has_add (by omega), rst_same (by omega)]
theorem rst_split {o : List Nat} {i : Nat} (h : o.contains i = false) : ∀ d : Nat, ∃ B, rst o (i + 1 + d) = rst o i ++ i :: B ∧ rst (o ++ [i]) (i + 1 + d) = rst o i ++ B
  | 0 => ⟨[], by rw [Nat.add_zero, rst, h]; rfl, by rw [Nat.add_zero, rst, if_pos (by simp), rst_same (Nat.le_refl _), List.append_nil]⟩
  | d + 1 => by
    obtain ⟨B, h1, h2⟩ := rst_split h d
    have e : i + 1 + (d + 1) = i + 1 + d + 1 := by omega
    have hc := has_add (o := o) (i := i) (j := i + 1 + d) (by omega)
    cases h3 : o.contains (i + 1 + d) with
    | true => exact ⟨B, by rw [e, rst, if_pos h3, h1], by rw [e, rst, if_pos (hc.trans h3), h2]⟩
    | false => exact ⟨B ++ [i + 1 + d], by rw [e, rst, h3, h1]; simp, by rw [e, rst, hc, h3, h2]; simp⟩
theorem rst_mem {o : List Nat} {j : Nat} : ∀ {m : Nat}, j ∈ rst o m → j < m ∧ o.contains j = false
  | 0, h => by cases h
  | m + 1, h => by
    rw [rst] at h
    split at h
    · have := rst_mem h; exact ⟨by omega, this.2⟩
    · rename_i h3
      rcases List.mem_append.1 h with h4 | h4
      · have := rst_mem h4; exact ⟨by omega, this.2⟩
      · obtain rfl := List.mem_singleton.1 h4
        exact ⟨by omega, by simpa using h3⟩
theorem atN {n m : Nat} (h : n < m) : atI (n : Int) m = n := by
  have e1 : (n : Int).tmod (m : Int) = n := Int.tmod_eq_of_lt (by omega) (by omega)
  have e2 : ((n : Int) + (m : Int)).tmod (m : Int) = n := by
    rw [Int.tmod_eq_emod_of_nonneg (by omega)]
    first
    | rw [Int.add_emod_right, Int.emod_eq_of_lt (by omega) (by omega)]
    | rw [Int.add_emod_self, Int.emod_eq_of_lt (by omega) (by omega)]
    | (simp; exact Int.emod_eq_of_lt (by omega) (by omega))
  unfold atI
  rw [e1, e2]
  omega
theorem gone_mid {α β : List Tx} {t : Tx} : gone (α ++ t :: β) α.length = α ++ β := by
  unfold gone
  simp
/-- The ledger that waits for what is not yet taken. -/
structure Sim (T : Nat → Tx) (n : Nat) (ns : Nat → Int) (o : List Nat) (k : CS) (c : Nat) : Prop where
  P : k.P = (rst o n).map T
  no : k.s.no = ns
  r : Rich k.s c
theorem sim_inc {T : Nat → Tx} {n : Nat} {ns : Nat → Int} {o : List Nat} {k : CS} {c : Nat} (h : Sim T n ns o k (c + 1)) (hT : ∀ i, i < n → Pl (T i)) {j : Nat} (hj : j < k.P.length) : ∃ i, i ∈ rst o n ∧ (rst o n)[j]? = some i ∧ k.P.getD j tx0 = T i ∧ incOk k (j : Int) = rdy ns (T i) := by
  have hl : j < (rst o n).length := by rw [h.P, List.length_map] at hj; exact hj
  have e : k.P.getD j tx0 = T (rst o n)[j] := by
    rw [h.P, List.getD_eq_getElem?_getD, List.getElem?_map, List.getElem?_eq_getElem hl]
    rfl
  have hm := rst_mem (List.getElem_mem hl)
  refine ⟨_, List.getElem_mem hl, List.getElem?_eq_getElem hl, e, ?_⟩
  rw [pl_inc h.r (fun t ht => ?_) hj, e, h.no]
  · unfold rdy
    rw [decide_eq_true (hT _ hm.1).c, Bool.true_and]
  · rw [h.P] at ht
    obtain ⟨i, hi, rfl⟩ := List.mem_map.1 ht
    exact hT i (rst_mem hi).1
theorem sim_none {T : Nat → Tx} {n : Nat} {ns : Nat → Int} {o : List Nat} {k : CS} {c : Nat} (h : Sim T n ns o k (c + 1)) (hT : ∀ i, i < n → Pl (T i)) (h0 : ∀ j, j < n → nxt T ns o j = false) : oneOk k = false := by
  refine (one_f fun j hj => ?_).1
  obtain ⟨i, h1, _, _, h4⟩ := sim_inc h hT hj
  have h5 := rst_mem h1
  have h6 := h0 i h5.1
  unfold nxt at h6
  rw [h5.2] at h6
  rw [h4]
  simpa using h6
theorem sim_some {T : Nat → Tx} {n : Nat} {ns : Nat → Int} {o : List Nat} {k : CS} {c i : Nat} (h : Sim T n ns o k (c + 1)) (hT : ∀ i, i < n → Pl (T i)) (hi : i < n) (h1 : nxt T ns o i = true) (h0 : ∀ j, j < i → nxt T ns o j = false) : oneOk k = true ∧ Sim T n (bump ns (T i).fr.toNat) (o ++ [i]) (oneC k) c := by
  unfold nxt at h1
  simp only [Bool.and_eq_true, Bool.not_eq_true'] at h1
  obtain ⟨B, s1, s2⟩ := rst_split h1.2 (n - (i + 1))
  rw [show i + 1 + (n - (i + 1)) = n by omega] at s1 s2
  have eP : k.P = (rst o i).map T ++ T i :: B.map T := by rw [h.P, s1]; simp
  have hj : (rst o i).length < k.P.length := by rw [eP]; simp
  have hat : k.P.getD (rst o i).length tx0 = T i := by
    rw [eP, List.getD_eq_getElem?_getD, List.getElem?_append_right (by simp)]
    simp
  have hok : incOk k ((rst o i).length : Int) = true := by
    obtain ⟨i', _, _, e3, e4⟩ := sim_inc h hT hj
    rw [e4, ← e3, hat]
    exact h1.1
  have hno : ∀ j, j < (rst o i).length → incOk k (j : Int) = false := fun j hj2 => by
    obtain ⟨i', g1, g2, _, g4⟩ := sim_inc h hT (by omega : j < k.P.length)
    have g5 : i' ∈ rst o i := by
      rw [s1, List.getElem?_append_left hj2] at g2
      exact List.mem_of_getElem? g2
    have g6 := rst_mem g5
    have g7 := h0 i' g6.1
    unfold nxt at g7
    rw [g6.2] at g7
    rw [g4]
    simpa using g7
  have ho := one_t hj hok hno
  refine ⟨ho.1, ?_⟩
  have hA : incA k ((rst o i).length : Int) = apF k.s k.L (T i) := by rw [← apAt hj, hat]
  have hpl : Pl (T i) := hT i hi
  have hn : (T i).no = k.s.no (T i).fr.toNat := by rw [h.no]; exact (Bld.rdy_of h1.1).2
  have ha := pl_ap (L := k.L) h.r hpl hn
  have hat2 : atI ((rst o i).length : Int) k.P.length = (rst o i).length := atN hj
  rw [ho.2, incC_t hok]
  refine ⟨?_, ?_, ?_⟩
  · show gone k.P (atI _ _) = _
    rw [hat2, eP, s2]
    have := gone_mid (α := (rst o i).map T) (β := B.map T) (t := T i)
    rw [List.length_map] at this
    rw [this]
    simp
  · show (incA k _).s.no = _
    rw [hA, ha.2.2.1, h.no]
    funext j
    unfold upd bump
    split <;> simp_all
  · show Rich (incA k _).s c
    rw [hA]
    exact ha.2.1
/-- As many are built as Order tells; behind it none can be. -/
theorem sim_bld {T : Nat → Tx} {n : Nat} (hT : ∀ i, i < n → Pl (T i)) : ∀ {m c : Nat} {ns : Nat → Int} {o : List Nat} {k : CS}, Sim T n ns o k (c + m) → 1 ≤ c → (bld m k).1 + o.length = (run T n m ns o).length
  | 0, c, ns, o, k, h, hc => by simp [bld, run]
  | m + 1, c, ns, o, k, h, hc => by
    rcases Bld.fst_cases (nxt T ns o) n with ⟨_, h2⟩ | ⟨i, h2, _, h4, h5⟩
    · rw [Bld.run_none h2, bld_f (sim_none (c := c + m) h hT h2)]
      simp
    · have hs := sim_some (c := c + m) h hT h2 h4 h5
      rw [Bld.run_some h2 h4 h5, bld_t hs.1]
      have := sim_bld hT hs.2 hc
      rw [List.length_append] at this
      simp at this ⊢
      omega
end Go.Proofs.YtljbedladifgmaaGreat.Bam
namespace Go.Proofs.YtljbedladifgmaaGreat.Ban
open Go Go.RowKit Eng
set_option linter.unusedVariables false
set_option maxRecDepth 100000
set_option linter.unusedSimpArgs false
open Wide Purse Tx Sha Ss Esc Vau Lck Do Prep Ful Doo Tri App Inn Low Gene Alv Kee Txl Cht Chn Chm Chw Chi Chx Civ Ali Sty Bb Alb Bbu Bal Bam Deal Mss Ots Hash Bytes
set_option maxHeartbeats 1000000
/-- The law's own transaction. -/
def pt (n m : Int) : Tx := ⟨n, m, 1, 1, 1, 0, [], 0, 0, 0, 0, [], 0, 0, 0, []⟩
theorem inB_t {x a b : Int} (h : a ≤ x) (h1 : x ≤ b) : inB x a b = true := by
  unfold inB
  rw [decide_eq_true h, decide_eq_true h1]
  rfl
theorem pt_chk {n m : Int} (h : 0 ≤ n ∧ n ≤ 7) (h1 : 0 ≤ m ∧ m ≤ 1000) : chk (pt n m) = 0 := by
  have e1 : inB (pt n m).fr 0 7 = true := inB_t h.1 h.2
  have e2 : inB (pt n m).no 0 1099511627776 = true := inB_t h1.1 (by show m ≤ _; omega)
  unfold chk
  rw [e1, e2]
  rfl
theorem pt_pl {n m : Int} (h : 0 ≤ n ∧ n ≤ 7) (h1 : 0 ≤ m ∧ m ≤ 1000) : Pl (pt n m) := ⟨rfl, rfl, pt_chk h h1⟩
theorem pt_in {n m : Int} (h : 0 ≤ n ∧ n ≤ 7) (h1 : 0 ≤ m ∧ m ≤ 1000) : TX (pt n m) := ⟨⟨⟨wd_n (n := 1) (by decide) (by decide), wd_n (n := 0) (by decide) (by decide), Nat.zero_le _, Nat.zero_le _, Nat.zero_le _⟩, wd_n (n := 0) (by decide) (by decide)⟩, ⟨i64_of (by show _ ≤ n; omega) (by show n ≤ _; omega), i64_of (by show _ ≤ m; omega) (by show m ≤ _; omega), i64_of (x := 1) (by decide) (by decide), i64_of (x := 1) (by decide) (by decide), i64_0, i64_0, i64_0, i64_0, i64_0, i64_0⟩⟩
/-- What is so of the ledger while the law fills it. -/
structure Fil (k : CS) (i : Nat) (ns : Nat → Int) : Prop where
  c : CI k i
  s : k.s = genS 0 5
  t : ∀ t, t ∈ k.P → Pl t ∧ t.no < ns t.fr.toNat
  ns : ∀ j, 0 ≤ ns j ∧ ns j ≤ 2 * i
theorem Fil.new : Fil (CS.new 0 5) 0 (fun _ => 0) := ⟨CI.new 0 5, rfl, fun t ht => (by cases ht), fun j => ⟨Int.le_refl _, Int.le_refl _⟩⟩
theorem Fil.sub {k : CS} {i : Nat} {ns n1 : Nat → Int} {n : Int} (h : Fil k i ns) (hi : i < 15) (hn : 0 ≤ n ∧ n ≤ 7) (h1 : ∀ j, ns j ≤ n1 j ∧ n1 j ≤ ns j + 1) : subOk k (pt n (n1 n.toNat)) = true ∧ Fil (subC k (pt n (n1 n.toNat))) (i + 1) (fun j => if j = n.toNat then n1 n.toNat + 1 else n1 j) := by
  have hb := h.ns n.toNat
  have hb1 := h1 n.toNat
  have hm : 0 ≤ n1 n.toNat ∧ n1 n.toNat ≤ 1000 := by omega
  have hP := h.c.P
  have ok : subOk k (pt n (n1 n.toNat)) = true := by
    refine subOk_t (pt_chk hn hm) (by omega) ?_
    cases e : hasT k.P (pt n (n1 n.toNat)) with
    | false => rfl
    | true =>
      obtain ⟨j, hj, h2⟩ := hasT_iff.1 e
      have h3 := teq_iff.1 h2
      have h4 := h.t (k.P.getD j tx0) (by rw [List.getD_eq_getElem?_getD, List.getElem?_eq_getElem hj]; exact List.getElem_mem hj)
      have e0 : (pt n (n1 n.toNat)).fr = (k.P.getD j tx0).fr := by
        have := congrArg (fun l => l[0]?) h3
        simpa [Tx.cells] using this
      have e1 : (pt n (n1 n.toNat)).no = (k.P.getD j tx0).no := by
        have := congrArg (fun l => l[1]?) h3
        simpa [Tx.cells] using this
      rw [← e0, ← e1] at h4
      have h5 : n1 n.toNat < ns n.toNat := h4.2
      omega
  refine ⟨ok, h.c.sub (pt_in hn hm), ?_, ?_, ?_⟩
  · rw [subC_t ok]; exact h.s
  · rw [subC_t ok]
    intro t ht
    rcases List.mem_append.1 ht with h2 | h2
    · have h3 := h.t t h2
      have h4 := h1 t.fr.toNat
      have h6 := h3.2
      refine ⟨h3.1, ?_⟩
      show t.no < (if t.fr.toNat = n.toNat then n1 n.toNat + 1 else n1 t.fr.toNat)
      split
      · rename_i h5; rw [h5] at h6 h4; omega
      · omega
    · obtain rfl := List.mem_singleton.1 h2
      refine ⟨pt_pl hn hm, ?_⟩
      show n1 n.toNat < (if n.toNat = n.toNat then n1 n.toNat + 1 else n1 n.toNat)
      rw [if_pos rfl]
      omega
  · intro j
    have h4 := h1 j
    have h5 := h.ns j
    split
    · rename_i h6; subst h6; omega
    · omega
theorem rst_nil : ∀ n, Bld.rst [] n = List.range n
  | 0 => rfl
  | n + 1 => by rw [Bld.rst, if_neg (by simp), rst_nil n, List.range_succ]
theorem Fil.sim {k : CS} {i : Nat} {ns : Nat → Int} (h : Fil k i ns) : Sim (fun j => k.P.getD j tx0) k.P.length (fun _ => 0) [] k 1000 := by
  refine ⟨?_, by rw [h.s]; rfl, by rw [h.s]; exact rich_gen 0 5⟩
  rw [rst_nil]
  apply List.ext_getElem?
  intro j
  rcases Nat.lt_or_ge j k.P.length with h1 | h1
  · rw [List.getElem?_map, List.getElem?_range h1, List.getElem?_eq_getElem h1]
    simp [h1]
  · rw [List.getElem?_eq_none h1, List.getElem?_eq_none (by simpa using h1)]
end Go.Proofs.YtljbedladifgmaaGreat.Ban
namespace Go.Proofs.YtljbedladifgmaaGreat.Bao
open Go Go.RowKit Eng
set_option linter.unusedVariables false
set_option maxRecDepth 100000
set_option linter.unusedSimpArgs false
theorem reads_one {W : World} {v : Value} {sh : Sh} (h : Sh.Reads W (.sl [sh]) v) : ∃ (ao : Option Addr) (n cap : Nat) (C : Nat → Value), v = .slice ao n cap ∧ n ≤ cap ∧ cap ≤ maxLen ∧ (∀ i, i < n → Sh.Reads W sh (C i)) ∧ Rd W ao (tab C n) := by
  simp only [Sh.Reads] at h
  rcases h with rfl | ⟨a, len, cap, rfl, h1, h2, C, hC⟩
  · exact ⟨none, 0, 0, fun _ => .bool true, rfl, Nat.le_refl _, Nat.zero_le _, fun i hi => by omega, Rd.nil _ _⟩
  · have key : ∀ i, i < len → ∃ u, C i = [u] ∧ Sh.Reads W sh u := fun i hi => by
      have h3 := (hC i hi).1
      simp only [Sh.ReadsL] at h3
      obtain ⟨u, r, e, h4, h5⟩ := h3
      exact ⟨u, by rw [e, h5], h4⟩
    refine ⟨some a, len, cap, fun i => (C i).headD (.bool true), rfl, h1, h2, fun i hi => ?_, Rd.some_ fun j u hj => ?_⟩
    · obtain ⟨u, e, h4⟩ := key i hi
      show Sh.Reads W sh ((C i).headD _)
      rw [e]
      exact h4
    · have hjl : j < len := by
        rcases Nat.lt_or_ge j len with h3 | h3
        · exact h3
        · rw [List.getElem?_eq_none (by rw [tab_length]; exact h3)] at hj
          cases hj
      rw [tab_get hjl] at hj
      obtain ⟨x, e, _⟩ := key j hjl
      rw [e] at hj
      have h5 := (hC j hjl).2 0 u (by rw [e]; exact hj)
      simpa using h5
end Go.Proofs.YtljbedladifgmaaGreat.Bao
namespace Go.Proofs.YtljbedladifgmaaGreat.Bba
open Go Go.RowKit Eng
set_option linter.unusedVariables false
set_option maxRecDepth 100000
set_option linter.unusedSimpArgs false
open Wide Purse Tx Sha Ss Esc Vau Lck Do Prep Ful Doo Tri App Inn Low Gene Alv Kee Txl Cht Chn Chm Chw Chi Chx Civ Ali Sty Bb Alb Bbu Bal Bam Ban Bao Deal Mss Ots Hash Bytes
set_option maxHeartbeats 4000000
theorem tm8_b {x : Int} (h : 0 ≤ x) : 0 ≤ x.tmod 8 ∧ x.tmod 8 ≤ 7 := ⟨Int.tmod_nonneg _ h, by have := Int.tmod_lt_of_pos x (b := 8) (by decide); omega⟩
theorem bld_fuel : ∀ {n m : Nat} {k : CS}, k.P.length ≤ n → k.P.length ≤ m → bld n k = bld m k
  | 0, m, k, h, _ => by
    have h1 : oneOk k = false := (one_f fun j hj => by omega).1
    rw [bld_f h1, bld_f h1]
  | n + 1, m, k, h, h2 => by
    cases h1 : oneOk k with
    | false => rw [bld_f h1, bld_f h1]
    | true =>
      have h3 := one_P h1
      obtain ⟨m, rfl⟩ : ∃ x, m = x + 1 := ⟨m - 1, by omega⟩
      rw [bld_t h1, bld_t h1, bld_fuel (m := m) (by omega) (by omega)]
theorem rich_less {s : SS} {c d : Nat} (h : Rich s c) (hd : d ≤ c) : Rich s d := ⟨fun j hj => by have := h.pu j hj; omega, by have := h.bu; omega⟩
theorem sim_last {T : Nat → Tx} {n : Nat} (hT : ∀ i, i < n → Pl (T i)) : ∀ {m c : Nat} {ns : Nat → Int} {o : List Nat} {k : CS}, Sim T n ns o k (c + m) → 1 ≤ c → ∃ ns' o', Sim T n ns' o' (bld m k).2 c
  | 0, c, ns, o, k, h, hc => ⟨ns, o, h⟩
  | m + 1, c, ns, o, k, h, hc => by
    rcases Bld.fst_cases (Bld.nxt T ns o) n with ⟨_, h2⟩ | ⟨i, h2, _, h4, h5⟩
    · rw [bld_f (sim_none (c := c + m) h hT h2)]
      exact ⟨ns, o, h.P, h.no, rich_less h.r (by omega)⟩
    · have hs := sim_some (c := c + m) h hT h2 h4 h5
      rw [bld_t hs.1]
      exact sim_last hT hs.2 hc
/-- What the law asks of a ledger that is filled. -/
theorem fil_end {k k2 : CS} {i n2 : Nat} {ns : Nat → Int} (h : Fil k i ns) (hi : i ≤ 15) (e : bld (bN 50) k = (n2, k2)) :
    (Bld.run (fun j => k.P.getD j tx0) k.P.length k.P.length (fun _ => 0) []).length = n2 ∧ Bld.run (fun j => k2.P.getD j tx0) k2.P.length k2.P.length k2.s.no [] = [] := by
  have hT : ∀ j, j < k.P.length → Pl (k.P.getD j tx0) := fun j hj => (h.t _ (by rw [List.getD_eq_getElem?_getD, List.getElem?_eq_getElem hj]; exact List.getElem_mem hj)).1
  have hP := h.c.P
  have e50 : bN 50 = 50 := by decide
  rw [e50] at e
  have hs := h.sim
  have e1 := sim_bld (m := k.P.length) (c := 1000 - k.P.length) hT (by rw [show 1000 - k.P.length + k.P.length = 1000 by omega]; exact hs) (by omega)
  rw [bld_fuel (m := 50) (Nat.le_refl _) (by omega), e] at e1
  obtain ⟨ns', o', h2⟩ := sim_last (m := 50) (c := 950) hT hs (by decide)
  rw [e] at h2
  have h3 := bld_is (m := 50) h.c
  rw [e] at h3
  obtain ⟨f1, f2, f3, f4, f5⟩ := h3
  dsimp only at f1 f2 f3 f4 f5
  have h5 := one_none (f5 (by omega))
  refine ⟨by simpa using e1.symm, Bld.run_none fun j hj => ?_⟩
  obtain ⟨x, g1, g2, g3, g4⟩ := sim_inc (c := 949) h2 hT hj
  have h6 := h5 j hj
  rw [g4, ← g3, ← h2.no] at h6
  dsimp only at h6
  unfold Bld.nxt
  rw [h6]
  rfl
theorem srcP {P : List Tx} {A : Asrt} {ao : Option Addr} (h : Srcs A ao 25 P.length (fun i => ((txc P).drop (i * 25)).take 25)) : Srcs A ao 25 P.length (fun i => (P.getD i tx0).cells) := h.eq fun i hi => txc_at hi
theorem rst_len0 (n : Nat) : (Bld.rst [] n).length = n := by rw [rst_nil, List.length_range]
theorem nv_zero : (List.replicate 8 (Value.int .i64 0)) = Bld.nv (fun _ => 0) := rfl
def nF (F : Nat → Int) (i : Nat) : Int := (F i).tmod 8
theorem nF_b {F : Nat → Int} {i : Nat} (h : 0 ≤ F i) : 0 ≤ nF F i ∧ nF F i ≤ 7 := tm8_b h
theorem nF_nat {F : Nat → Int} {i : Nat} (h : 0 ≤ F i) : (nF F i).toNat < 8 := by have := nF_b h; omega
/-- A place's number is greater by one. -/
def inc1 (ns : Nat → Int) (k : Nat) : Nat → Int := fun j => if j = k then ns k + 1 else ns j
theorem inc1_put {ns : Nat → Int} {k : Nat} {v : Value} (hv : v = .int .i64 (ns k + 1)) : tab (fun j => if j = k then v else .int .i64 (ns j)) 8 = Bld.nv (inc1 ns k) := by
  subst hv
  refine tab_same fun j hj => ?_
  unfold inc1
  split <;> rfl
theorem inc1_le (ns : Nat → Int) (k j : Nat) : ns j ≤ inc1 ns k j ∧ inc1 ns k j ≤ ns j + 1 := by
  unfold inc1
  split
  · rename_i h; subst h; omega
  · omega
theorem ns_le (ns : Nat → Int) (j : Nat) : ns j ≤ ns j ∧ ns j ≤ ns j + 1 := by omega
theorem pt_len (n m : Int) : (pt n m).cells.length = 25 := rfl
theorem alls (af ag : Option Addr) (nf cf ng cg : Nat) (F : Nat → Int) (G : Nat → Bool) (w : World) (hw : Rd w af (tab (fun j => .int .u8 (F j)) nf) ∧ (∀ i, i < nf → 0 ≤ F i ∧ F i ≤ 255) ∧ nf ≤ maxLen ∧ Rd w ag (tab (fun j => .bool (G j)) ng) ∧ ng ≤ maxLen) : CSpec Tryz.prog 10 [.slice af nf cf, .slice ag ng cg] [] w (Gives (.bool true)) := by
  obtain ⟨hrf, hF_, hmf, hrg, hmg⟩ := hw
  have hmf9 : nf ≤ 9223372036854775807 := by unfold maxLen at hmf; omega
  have hmg9 : ng ≤ 9223372036854775807 := by unfold maxLen at hmg; omega
  have hsf : 0 < nf → af.isSome = true := fun h => hrf.isSome fun e => by have := congrArg List.length e; rw [tab_length] at this; simp at this; omega
  have hsg : 0 < ng → ag.isSome = true := fun h => hrg.isSome fun e => by have := congrArg List.length e; rw [tab_length] at this; simp at this; omega
  refine spec_own0 Tryz.func10 rfl Tryz.ntmps10 rfl (l0 := [(0, .slice af nf cf), (1, .slice ag ng cg)]) rfl ?_
  repeat' first
    | ((with_reducible apply J.cutS (id := 5) (α := Nat × CS × (Nat → Int)) (p := fun x => x.1 ≤ 15 ∧ Fil x.2.1 x.1 x.2.2) (L := fun x => [(5, .pointer (some ⟨b9, 0, none⟩))]) (HH := fun x => [chn b9 x.2.1])); rotate_left; rintro ⟨i, k, ns⟩ ⟨hi, hF⟩; (try dsimp only at hi hF); (obtain ⟨n2, k2, e2⟩ : ∃ n2 k2, bld (bN 50) k = (n2, k2) := ⟨_, _, rfl⟩); (obtain ⟨hrl, hst⟩ := fil_end hF hi e2); (have hc := hF.c); (have hno : k.s.no = fun _ => 0 := by rw [hF.s]; rfl); (have hbi := bld_is (m := bN 50) hc); (rw [e2] at hbi); (obtain ⟨f1, f2, f3, f4, f5⟩ := hbi); (dsimp only at f1 f2 f3 f4 f5); (have hcP := hc.P); (have hkE := hc.E); (try dsimp only))
    | ((with_reducible apply J.givesW (alive40)); exact rfl; exact rfl)
    | ((with_reducible apply J.newE (new_ _ _)); exact rfl; exact rfl; intro b9)
    | ((with_reducible apply J.stV (state_ b9 _)); exact rfl; exact rfl; (exact RH.and (RH.chn (by (repeat (first | with_reducible exact In.here | with_reducible apply In.there)))) (RH.of (by first | exact hc.cb (by omega) | exact f4.cb (by omega)))); intro u7 hu7)
    | ((with_reducible apply J.freshR (pool_ b9 _)); exact rfl; exact rfl; (exact RH.and (RH.chn (by (repeat (first | with_reducible exact In.here | with_reducible apply In.there)))) (RH.of (by omega))); intro u9 hu9; (with_reducible apply J.rowV In.here); rintro vo vc e9 hR; cases e9)
    | ((with_reducible apply J.freshP (Bld2.order _ _ _ k.P.length (fun j => k.P.getD j tx0) (fun _ => 0) _)); exact rfl; exact rfl; (repeat (first | (with_reducible exact Outs.nil) | ((with_reducible apply Outs.cons); (repeat (first | with_reducible exact Out.here | with_reducible apply Out.there))))); (exact ⟨srcP hR, (fun j _ => (hc.p.get j).i.i), by omega, hno ▸ SS.g4w _ _⟩); intro v12)
    | ((with_reducible apply J.chE (fun w h => build_e b9 i n2 k k2 50 e2 w h)); exact rfl; exact rfl; (repeat (first | (with_reducible exact Outs.nil) | ((with_reducible apply Outs.cons); (repeat (first | with_reducible exact Out.here | with_reducible apply Out.there))))); exact RH.of ⟨hc, by omega⟩)
    | ((with_reducible apply J.freshP (Bld3.stuckC _ _ _ k2.P.length (fun j => k2.P.getD j tx0) k2.s.no _)); exact rfl; exact rfl; (repeat (first | (with_reducible exact Outs.nil) | ((with_reducible apply Outs.cons); (repeat (first | with_reducible exact Out.here | with_reducible apply Out.there))))); (exact ⟨⟨srcP hR, (fun j _ => (f4.p.get j).i.i), by omega⟩, SS.g4w _ _, SS.len _ _⟩); intro v13)
    | refine J.one ?_
    | refine J.loudS ?_
    | (refine J.loudQ ?_; intro _ _)
    | (refine J.loudB ?_; intro _)
    | (with_reducible apply J.list)
    | ((with_reducible apply J.gsplit); exact rfl; exact rfl)
    | ((with_reducible first | apply J.cond | apply JC.cond); exact rfl)
    | (intro h; exfalso; (first | (simp at h; done) | (rw [hok] at h; simp at h; done) | (rw [hrl] at h; simp at h; done) | (rw [hst] at h; simp at h; done) | (simp at h; omega) | omega))
    | (intro h; (try simp only [decide_eq_true_eq, decide_eq_false_iff_not, beq_iff_eq, beq_eq_false_iff_ne, Bool.not_eq_true', Bool.not_eq_false', bne_iff_ne, bne_eq_false_iff_eq, ne_eq, ge_iff_le, gt_iff_lt] at h))
    | (with_reducible apply J.gave')
    | ((with_reducible apply J.kept'); rotate_left; (repeat (first | (with_reducible exact Outs.nil) | ((with_reducible apply Outs.cons); (repeat (first | with_reducible exact Out.here | with_reducible apply Out.there))))))
  · (simp only [retv]; rw [hst, rst_len0]; simp)
  rename_i b6
  apply J.reB (b := b6) (C' := Bld.nv (fun _ => 0))
  · (repeat (first | with_reducible exact Upd.here | with_reducible apply Upd.there))
  · rfl
  apply J.loopI (σ := Nat × CS × (Nat → Int)) (I := fun x => x.1 ≤ nf ∧ x.1 ≤ 15 ∧ Fil x.2.1 x.1 x.2.2) (L := fun x => [(0, .slice af nf cf), (1, .slice ag ng cg), (5, .pointer (some ⟨b9, 0, none⟩)), (6, .pointer (some ⟨b6, 0, none⟩)), (7, .int .i64 (x.1 : Int))]) (HH := fun x => [chn b9 x.2.1, blk b6 (Bld.nv x.2.2) 31]) (m := fun x => 15 - x.1) (s0 := (0, CS.new 0 5, fun _ => 0))
  · ((try dsimp only); (exact ⟨Nat.zero_le _, Nat.zero_le _, Fil.new⟩))
  · ((try dsimp only); repeat (first | exact sub.nil _ | (refine sub.consE rfl ?_ ?_; (first | with_reducible rfl | (fail) | rfl))))
  · ((try dsimp only); (repeat (first | (with_reducible exact Outs.nil) | ((with_reducible apply Outs.cons); (repeat (first | with_reducible exact Out.here | with_reducible apply Out.there))))))
  rintro ⟨i, k, ns⟩ ⟨hi, hi2, hF⟩
  try dsimp only at *
  rcases Nat.lt_or_ge i nf with hlt | hge
  · rcases Nat.lt_or_ge i 15 with hl5 | hg5
    · have hf2 := hF_ i hlt
      have hnb : 0 ≤ nF F i ∧ nF F i ≤ 7 := nF_b hf2.1
      have hb0 := hF.ns (nF F i).toNat
      repeat' first
        | ((with_reducible apply J.cutS (id := 9) (α := Nat → Int) (p := fun n1 => ∀ j, ns j ≤ n1 j ∧ n1 j ≤ ns j + 1) (L := fun n1 => [(0, .slice af nf cf), (1, .slice ag ng cg), (5, .pointer (some ⟨b9, 0, none⟩)), (6, .pointer (some ⟨b6, 0, none⟩)), (7, .int .i64 (i : Int)), (8, .int .i64 (nF F i))]) (HH := fun n1 => [chn b9 k, blk b6 (Bld.nv n1) 31])); rotate_left; rintro n1 h1; (obtain ⟨hok, hF2⟩ := hF.sub (n := nF F i) (by omega) hnb h1); (have hb1 := h1 (nF F i).toNat); (try dsimp only))
        | (refine J.qv ?_; (with_reducible apply exq); focus (first
          | ((with_reducible apply Qv.indexSrcs (ao := af) (k := i)); exact rfl; exact rfl; (focus omega); (focus omega); exact hsf (by omega))
          | ((with_reducible apply Qv.indexSrcs (ao := ag) (k := i)); exact rfl; exact rfl; (focus omega); (focus omega); exact hsg (by omega))
          | ((with_reducible apply Qv.conv); exact rfl; exact wr64 (by omega) (by omega) rfl)
          | ((with_reducible apply Qv.rem); exact rfl; exact rfl; decide; (show (F i).tmod 8 = nF F i; rfl))
          | ((with_reducible apply Qv.add); exact rfl; exact rfl; exact wr64 (by omega) (by omega) rfl)
          | ((with_reducible apply Qv.indexArr); exact rfl; exact rfl; (focus (constructor <;> omega)); exact rfl)
          | ((with_reducible apply Qv.buildS (T := 50)); exact rfl; (show _ = some ((pt (nF F i) (n1 (nF F i).toNat)).cells)); kernel_rfl)))
        | (refine J.qr ?_; (with_reducible apply exq); focus (first
          | ((with_reducible apply Qr.rd1 (C := tab (fun j => .int .u8 (F j)) nf) (j := i * 1)); exact rfl; exact RH.old hrf; exact tab_at (Nat.mul_one i) (by omega))
          | ((with_reducible apply Qr.rd1 (C := tab (fun j => .bool (G j)) ng) (j := i * 1)); exact rfl; exact RH.old hrg; exact tab_at (Nat.mul_one i) (by omega))
          | ((with_reducible apply Qr.load1); exact rfl; (repeat (first | with_reducible exact In.here | with_reducible apply In.there)); (with_reducible refine tab_at (k := (nF F i).toNat) ?_ ?_); (first | omega | rfl); omega)))
        | ((with_reducible apply J.store1); exact rfl; exact rfl; exact rfl; (repeat (first | with_reducible exact Upd.here | with_reducible apply Upd.there)); (with_reducible refine tab_put (k := (nF F i).toNat) ?_ ?_); (first | omega | rfl); omega; (rw [tab_length]; omega))
        | ((with_reducible apply J.chE (fun w h => submit_ _ k (pt (nF F i) (n1 (nF F i).toNat)) w h)); exact rfl; exact rfl; (repeat (first | (with_reducible exact Outs.nil) | ((with_reducible apply Outs.cons); (repeat (first | with_reducible exact Out.here | with_reducible apply Out.there))))); exact RH.of ⟨hF.c.cb (by omega), pt_in hnb (by omega)⟩)
        | refine J.one ?_
        | refine J.loudS ?_
        | (refine J.loudQ ?_; intro _ _)
        | (refine J.loudB ?_; intro _)
        | (with_reducible apply J.list)
        | ((with_reducible apply J.gsplit); exact rfl; exact rfl)
        | ((with_reducible first | apply J.cond | apply JC.cond); exact rfl)
        | (intro h; exfalso; (first | (simp at h; done) | (rw [hok] at h; simp at h; done) | (rw [hrl] at h; simp at h; done) | (rw [hst] at h; simp at h; done) | (simp at h; omega) | omega))
        | (intro h; (try simp only [decide_eq_true_eq, decide_eq_false_iff_not, beq_iff_eq, beq_eq_false_iff_ne, Bool.not_eq_true', Bool.not_eq_false', bne_iff_ne, bne_eq_false_iff_eq, ne_eq, ge_iff_le, gt_iff_lt] at h))
        | (with_reducible apply J.gave')
        | ((with_reducible apply J.kept'); rotate_left; (repeat (first | (with_reducible exact Outs.nil) | ((with_reducible apply Outs.cons); (repeat (first | with_reducible exact Out.here | with_reducible apply Out.there))))))
      all_goals first
        | ((with_reducible apply J.meet (ns)); (case hs => ((try dsimp only); repeat (first | exact sub.nil _ | (refine sub.consE rfl ?_ ?_; (first | with_reducible rfl | (fail) | rfl))))); (case ho => ((try dsimp only); (repeat (first | (with_reducible exact Outs.nil) | ((with_reducible apply Outs.cons); (repeat (first | with_reducible exact Out.here | with_reducible apply Out.there))))); done)); (case hp => exact fun j => ns_le ns j))
        | ((apply J.reB (b := b6) (C' := Bld.nv (inc1 ns (nF F i).toNat)); (repeat (first | with_reducible exact Upd.here | with_reducible apply Upd.there)); (exact inc1_put rfl))
           ((with_reducible apply J.meet ((inc1 ns (nF F i).toNat))); (case hs => ((try dsimp only); repeat (first | exact sub.nil _ | (refine sub.consE rfl ?_ ?_; (first | with_reducible rfl | (fail) | rfl))))); (case ho => ((try dsimp only); (repeat (first | (with_reducible exact Outs.nil) | ((with_reducible apply Outs.cons); (repeat (first | with_reducible exact Out.here | with_reducible apply Out.there))))); done)); (case hp => exact fun j => inc1_le ns _ j)))
        | ((apply J.reB (b := b6) (C' := Bld.nv (inc1 n1 (nF F i).toNat)); (repeat (first | with_reducible exact Upd.here | with_reducible apply Upd.there)); (exact inc1_put rfl))
           (apply J.againI (s := (i, k, ns)) (s' := (i + 1, subC k (pt (nF F i) (n1 (nF F i).toNat)), inc1 n1 (nF F i).toNat)); (focus (((try dsimp only) <;> omega))); (focus ((try dsimp only); (exact ⟨by omega, by omega, hF2⟩))); (focus (((try dsimp only); repeat (first | exact sub.nil _ | (refine sub.consE rfl ?_ ?_; (first | with_reducible rfl | ((focus (congr 1; omega))) | rfl)))))); ((try dsimp only); (repeat (first | (with_reducible exact Outs.nil) | ((with_reducible apply Outs.cons); (repeat (first | with_reducible exact Out.here | with_reducible apply Out.there))))))))
        | (trace_state; fail)
    · have hnb : True := trivial
      repeat' first
        | refine J.one ?_
        | refine J.loudS ?_
        | (refine J.loudQ ?_; intro _ _)
        | (refine J.loudB ?_; intro _)
        | (with_reducible apply J.list)
        | ((with_reducible apply J.gsplit); exact rfl; exact rfl)
        | ((with_reducible first | apply J.cond | apply JC.cond); exact rfl)
        | (intro h; exfalso; (first | (simp at h; done) | (rw [hok] at h; simp at h; done) | (rw [hrl] at h; simp at h; done) | (rw [hst] at h; simp at h; done) | (simp at h; omega) | omega))
        | (intro h; (try simp only [decide_eq_true_eq, decide_eq_false_iff_not, beq_iff_eq, beq_eq_false_iff_ne, Bool.not_eq_true', Bool.not_eq_false', bne_iff_ne, bne_eq_false_iff_eq, ne_eq, ge_iff_le, gt_iff_lt] at h))
        | (with_reducible apply J.gave')
        | ((with_reducible apply J.kept'); rotate_left; (repeat (first | (with_reducible exact Outs.nil) | ((with_reducible apply Outs.cons); (repeat (first | with_reducible exact Out.here | with_reducible apply Out.there))))))
      all_goals first
        | ((with_reducible apply J.meet ((i, k, ns))); (case hs => ((try dsimp only); repeat (first | exact sub.nil _ | (refine sub.consE rfl ?_ ?_; (first | with_reducible rfl | (fail) | rfl))))); (case ho => ((try dsimp only); (repeat (first | (with_reducible exact Outs.nil) | ((with_reducible apply Outs.cons); (repeat (first | with_reducible exact Out.here | with_reducible apply Out.there))))); done)); (case hp => exact ⟨by omega, hF⟩))
        | (trace_state; fail)
  · have hnb : True := trivial
    repeat' first
      | refine J.one ?_
      | refine J.loudS ?_
      | (refine J.loudQ ?_; intro _ _)
      | (refine J.loudB ?_; intro _)
      | (with_reducible apply J.list)
      | ((with_reducible apply J.gsplit); exact rfl; exact rfl)
      | ((with_reducible first | apply J.cond | apply JC.cond); exact rfl)
      | (intro h; exfalso; (first | (simp at h; done) | (rw [hok] at h; simp at h; done) | (rw [hrl] at h; simp at h; done) | (rw [hst] at h; simp at h; done) | (simp at h; omega) | omega))
      | (intro h; (try simp only [decide_eq_true_eq, decide_eq_false_iff_not, beq_iff_eq, beq_eq_false_iff_ne, Bool.not_eq_true', Bool.not_eq_false', bne_iff_ne, bne_eq_false_iff_eq, ne_eq, ge_iff_le, gt_iff_lt] at h))
      | (with_reducible apply J.gave')
      | ((with_reducible apply J.kept'); rotate_left; (repeat (first | (with_reducible exact Outs.nil) | ((with_reducible apply Outs.cons); (repeat (first | with_reducible exact Out.here | with_reducible apply Out.there))))))
    all_goals first
      | ((with_reducible apply J.meet ((i, k, ns))); (case hs => ((try dsimp only); repeat (first | exact sub.nil _ | (refine sub.consE rfl ?_ ?_; (first | with_reducible rfl | (fail) | rfl))))); (case ho => ((try dsimp only); (repeat (first | (with_reducible exact Outs.nil) | ((with_reducible apply Outs.cons); (repeat (first | with_reducible exact Out.here | with_reducible apply Out.there))))); done)); (case hp => exact ⟨by omega, hF⟩))
      | (trace_state; fail)
theorem reads_u8s {W : World} {v : Value} (h : Sh.Reads W (.sl [.int .u8]) v) : ∃ (ao : Option Addr) (n cap : Nat) (F : Nat → Int), v = .slice ao n cap ∧ Rd W ao (tab (fun j => .int .u8 (F j)) n) ∧ (∀ i, i < n → 0 ≤ F i ∧ F i ≤ 255) ∧ n ≤ maxLen := by
  obtain ⟨ao, n, cap, C, e, h1, h2, h3, h4⟩ := reads_one h
  have key : ∀ i, ∃ x : Int, i < n → C i = .int .u8 x ∧ 0 ≤ x ∧ x ≤ 255 := fun i => by
    rcases Nat.lt_or_ge i n with h5 | h5
    · have h6 := h3 i h5
      simp only [Sh.Reads] at h6
      obtain ⟨x, e1, e2⟩ := h6
      refine ⟨x, fun _ => ⟨e1, ?_⟩⟩
      simp [Lit.wf, IntKind.min, IntKind.max, IntKind.signed, IntKind.bits] at e2
      omega
    · exact ⟨0, fun h => by omega⟩
  refine ⟨ao, n, cap, fun i => (key i).choose, e, ?_, fun i hi => ((key i).choose_spec hi).2, Nat.le_trans h1 h2⟩
  have e2 : tab (fun j => Value.int .u8 (key j).choose) n = tab C n := tab_same fun j hj => ((key j).choose_spec hj).1.symm
  rw [e2]
  exact h4
theorem reads_bools {W : World} {v : Value} (h : Sh.Reads W (.sl [.bool]) v) : ∃ (ao : Option Addr) (n cap : Nat) (G : Nat → Bool), v = .slice ao n cap ∧ Rd W ao (tab (fun j => .bool (G j)) n) ∧ n ≤ maxLen := by
  obtain ⟨ao, n, cap, C, e, h1, h2, h3, h4⟩ := reads_one h
  have key : ∀ i, ∃ x : Bool, i < n → C i = .bool x := fun i => by
    rcases Nat.lt_or_ge i n with h5 | h5
    · have h6 := h3 i h5
      simp only [Sh.Reads] at h6
      obtain ⟨x, e1⟩ := h6
      exact ⟨x, fun _ => e1⟩
    · exact ⟨true, fun h => by omega⟩
  refine ⟨ao, n, cap, fun i => (key i).choose, e, ?_, Nat.le_trans h1 h2⟩
  have e2 : tab (fun j => Value.bool (key j).choose) n = tab C n := tab_same fun j hj => ((key j).choose_spec hj).symm
  rw [e2]
  exact h4
theorem BuilderAll {r : Reach} {b0 : Nat} {H : Type} {enc : TypeId × Value → H} {spare : Nat → Bool} {held : Bool} {d0 d1 : DataW H} {p0 p1 : List MemPlace} (v0 v1 : Value) (W : World) (o0 : Value.okWide Tryz.prog W r b0 93 v0) (t0 : DataW.Trod enc Tryz.prog W 0 spare held 93 v0 d0 p0) (o1 : Value.okWide Tryz.prog W r b0 94 v1) (t1 : DataW.Trod enc Tryz.prog W 0 spare held 94 v1 d1 p1) :
    Calls Tryz.prog 10 #[v0, v1] W fun e w' => e = .returned (.bool true) ∧ Below W.heap.size W w' := by
  obtain ⟨af, nf, cf, F, rfl, h1, h2, h3⟩ := reads_u8s (in_slice (L := [.int .u8]) (k := 6) (e := 5) rfl o0 t0 (by kernel_rfl))
  obtain ⟨ag, ng, cg, G, rfl, h4, h5⟩ := reads_bools (in_slice (L := [.bool]) (k := 6) (e := 4) rfl o1 t1 (by kernel_rfl))
  exact (alls af ag nf cf ng cg F G W ⟨h1, h2, h3, h4, h5⟩).below
end Go.Proofs.YtljbedladifgmaaGreat.Bba
