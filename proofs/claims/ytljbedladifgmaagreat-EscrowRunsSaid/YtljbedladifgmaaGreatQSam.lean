/-
  States that are one. No conditions.
-/
import Derived.Test.YtljbedladifgmaaGreatQVau
import Derived.Test.YtljbedladifgmaaGreatQCl
import Derived.Defers
import Derived.Recover
namespace Go.Proofs.YtljbedladifgmaaGreat.Lck
open Go Go.RowKit Eng
set_option linter.unusedVariables false
set_option maxRecDepth 100000
set_option linter.unusedSimpArgs false
open Wide Purse Tx Sha Ss Esc Vau Deal Mss Ots Hash Bytes
set_option maxHeartbeats 1000000
/-- Why there is no lock of these data; 0: there is one. -/
def lockE (L : List Lk) (t : Tx) : Int :=
  if 0 ≤ plc L (keyT t) then (if (L.getD (plc L (keyT t)).toNat lk0).st = 1 then (if (L.getD (plc L (keyT t)).toNat lk0).dig = digT t then 0 else 33) else 32) else 32
theorem if0 {p : Prop} {dp : Decidable p} {e : Int} (h : (if p then 0 else e) = 0) (he : e ≠ 0) : p := by
  split at h
  · assumption
  · exact absurd h he
theorem ifn {p : Prop} {dp : Decidable p} {e : Int} (h : ¬(if p then 0 else e) = 0) : ¬p := fun hp => h (if_pos hp)
theorem lcs_get {L : List Lk} {i j : Nat} (h : i < L.length) (hj : j < 3) : (lcs L)[i * 3 + j]? = (L.getD i lk0).cells[j]? := by
  have h2 := congrArg (fun l : List Value => l[j]?) (lcs_at h)
  simp only [List.getElem?_take, List.getElem?_drop, hj, if_true] at h2
  exact h2
theorem lock_ (b : Nat) (s : SS) (ao : Option Addr) (n cap : Nat) (L : List Lk) (t : Tx) (w : World) (hw : (Rd w (some ⟨b, 0, none⟩) (s.cells (.slice ao n cap)) ∧ Rd w ao (lcs L)) ∧ n = L.length ∧ L.length ≤ maxLen ∧ Wd t.va) : CSpec Tryz.prog 143 [.pointer (some ⟨b, 0, none⟩), .agg t.cells.toArray] [] w (RE (lockE L t) (.pointer (some ((ao.getD ⟨0, 0, none⟩).add ((plc L (keyT t)).toNat * 3)))) []) := by
  obtain ⟨⟨hS, hL⟩, rfl, hm, hva⟩ := hw
  obtain ⟨k, hk0⟩ : ∃ k, k = (plc L (keyT t)).toNat := ⟨_, rfl⟩
  have hk : 0 ≤ plc L (keyT t) → plc L (keyT t) = (k : Int) ∧ k < L.length := fun h => by
    have h9 : plc L (keyT t) < L.length := findI_lt
    omega
  have hao : 0 ≤ plc L (keyT t) → ao.isSome = true := fun h => hL.isSome (by
    intro e
    have h8 := lcs_length L
    have h9 := hk h
    rw [e] at h8
    simp at h8
    omega)
  refine spec_own0 Tryz.func143 rfl Tryz.ntmps143 rfl (l0 := [(0, .pointer (some ⟨b, 0, none⟩)), (1, .agg t.cells.toArray)]) rfl ?_
  repeat' first
    | (with_reducible first | apply J.then_panic | apply J.blk_panic | apply J.sco_panic)
    | ((with_reducible apply J.panic); exact rfl)
    | (refine J.qv ?_; (with_reducible apply exq); focus (first
      | ((with_reducible apply Qv.fieldAdd); exact rfl)
      | ((with_reducible apply Qv.indexSrcs (k := k)); exact rfl; exact rfl; (focus (have h7 := hk (by assumption); omega)); (focus (have h7 := hk (by assumption); omega)); exact hao (by assumption))))
    | (refine J.qr ?_; (with_reducible apply exq); focus (first
      | ((with_reducible apply Qr.rd1 (ao := some ⟨b, 0, none⟩) (C := s.cells (.slice ao L.length cap)) (j := 150)); exact rfl; exact RH.old hS; exact s.g7 _)
      | ((with_reducible apply Qr.indexRd (k := k) (C := lcs L)); exact rfl; exact rfl; exact (hk (by assumption)).1; exact (hk (by assumption)).2; exact RH.old hL; (rw [lcs_length]; omega))
      | ((with_reducible apply Qr.rd1 (C := lcs L) (j := k * 3 + 2)); exact rfl; exact RH.old hL; exact lcs_get (hk (by assumption)).2 (by decide))
      | ((with_reducible apply Qr.rd1 (C := lcs L) (j := k * 3 + 1)); exact rfl; exact RH.old hL; exact lcs_get (hk (by assumption)).2 (by decide))))
    | (refine J.qo ?_; refine ⟨?_, ?_⟩; focus (first
      | ((with_reducible apply Qr.rd1 (ao := some ⟨b, 0, none⟩) (C := s.cells (.slice ao L.length cap)) (j := 150)); exact rfl; exact RH.old hS; exact s.g7 _)
      | ((with_reducible apply Qr.indexRd (k := k) (C := lcs L)); exact rfl; exact rfl; exact (hk (by assumption)).1; exact (hk (by assumption)).2; exact RH.old hL; (rw [lcs_length]; omega))
      | ((with_reducible apply Qr.rd1 (C := lcs L) (j := k * 3 + 2)); exact rfl; exact RH.old hL; exact lcs_get (hk (by assumption)).2 (by decide))
      | ((with_reducible apply Qr.rd1 (C := lcs L) (j := k * 3 + 1)); exact rfl; exact RH.old hL; exact lcs_get (hk (by assumption)).2 (by decide))))
    | ((with_reducible apply J.givesR (key_ t.us t.rt t.ro t.se t.re t.to t.id)); exact rfl; exact rfl; focus (exact RH.true_))
    | ((with_reducible apply J.givesR (place_ _ s _ _ _ L (keyT t))); exact rfl; exact rfl; focus (exact RH.and (RH.and (RH.old hS) (RH.old hL)) (RH.of ⟨rfl, hm⟩)))
    | ((with_reducible apply J.givesR (digest_ t.us t.rt t.ro t.se t.re t.to t.id t.va t.ex)); exact rfl; exact rfl; focus (exact RH.of hva))
    | ((with_reducible apply J.retER (needE_ _ _ _)); exact rfl; exact rfl; exact RH.of (by decide))
    | ((with_reducible apply J.retER (needP_ _ _ _)); exact rfl; exact rfl; exact RH.of (by decide))
    | ((with_reducible apply J.retER (need_ _ _)); exact rfl; exact rfl; exact RH.of (by decide))
    | refine J.one ?_
    | refine J.loudS ?_
    | (refine J.loudQ ?_; intro _ _)
    | (refine J.loudB ?_; intro _)
    | (with_reducible apply J.list)
    | ((with_reducible apply J.draw (id := 3) [0, 1, 3, 7, 0, 31, 63, 127, 0, 256, 0, 1024, 3840, 8191, 16383] (.p 0 (.p 1 (.p 2 (.q 3 (.p 4 (.p 5 (.p 6 (.q 7 (.p 8 (.q 9 (.p 10 (.q 11 (.x 12 (.p 13 (.x 14 .nil .none)) .none))))))))))))) (by kernel_rfl) ?_ (by kernel_rfl) ?_); (repeat (with_reducible first | exact PanicFree.body | exact PanicFree.np | exact PanicFree.lvS | apply PanicFree.then_ | apply PanicFree.blk)))
    | ((with_reducible apply J.pl2); exact rfl; (first | exact Gd.none | ((with_reducible apply Gd.on); exact rfl; exact rfl)); (first | exact pend_au | fail))
    | ((with_reducible apply J.pl2_off); exact rfl; ((with_reducible apply Gd.off); exact rfl; exact rfl; exact rfl); exact rfl; (first | exact pend_au | fail))
    | ((with_reducible apply J.pl2_off_none); exact rfl; ((with_reducible apply Gd.off); exact rfl; exact rfl; exact rfl); (first | exact pend_au | fail))
    | ((with_reducible first | apply J.psplit0 | apply J.psplit1 | apply J.psplit2); exact rfl; exact rfl; exact rfl)
    | (with_reducible exact J.pl_none)
    | ((with_reducible apply J.gsplit); exact rfl; exact rfl)
    | ((with_reducible first | apply J.cond | apply JC.cond); exact rfl)
    | (intro h; exfalso; (revert h; decide))
    | (intro h; (try simp only [decide_eq_true_eq, decide_eq_false_iff_not, beq_iff_eq, beq_eq_false_iff_ne, Bool.not_eq_true', Bool.not_eq_false', bne_iff_ne, bne_eq_false_iff_eq, ne_eq, ge_iff_le, gt_iff_lt] at h))
    | (with_reducible apply J.gave')
    | ((with_reducible apply J.kept'); rotate_left; (first | exact outs_au | fail))
  all_goals
    first
    | (have h1 : (L.getD k lk0).st = 1 := if0 (e := 32) (by assumption) (by decide)
       have h2 : (L.getD k lk0).dig = digT t := if0 (e := 33) (by assumption) (by decide)
       have e : lockE L t = 0 := by unfold lockE; rw [← hk0, if_pos (by assumption), if_pos h1]; exact if_pos h2
       apply J.fine e
       · rw [← hk0]; rfl
       · (first | exact outs_au | fail))
    | (have h1 : (L.getD k lk0).st = 1 := if0 (e := 32) (by assumption) (by decide)
       have h2 : ¬(L.getD k lk0).dig = digT t := ifn (e := 33) (by assumption)
       have e : lockE L t = 33 := by unfold lockE; rw [← hk0, if_pos (by assumption), if_pos h1]; exact if_neg h2
       apply J.stops
       · rw [e]; decide
       · rw [e]; exact if_neg h2)
    | (have h1 : ¬(L.getD k lk0).st = 1 := ifn (e := 32) (by assumption)
       have e : lockE L t = 32 := by unfold lockE; rw [← hk0, if_pos (by assumption)]; exact if_neg h1
       apply J.stops
       · rw [e]; decide
       · rw [e]; exact if_neg h1)
    | (have e : lockE L t = 32 := by unfold lockE; exact if_neg (by assumption)
       apply J.stops
       · rw [e]; decide
       · rw [e]; rfl)
    | (trace_state; fail)
end Go.Proofs.YtljbedladifgmaaGreat.Lck
namespace Go.Proofs.YtljbedladifgmaaGreat.Do
open Go Go.RowKit Eng
set_option linter.unusedVariables false
set_option maxRecDepth 100000
set_option linter.unusedSimpArgs false
open Wide Purse Tx Sha Ss Esc Vau Lck Deal Mss Ots Hash Bytes
set_option maxHeartbeats 1000000
theorem ife30 {p : Prop} {dp : Decidable p} : ((if p then (0 : Int) else 30) = 0) = p := by
  by_cases h : p <;> simp [h]
theorem ife31 {p : Prop} {dp : Decidable p} : ((if p then (0 : Int) else 31) = 0) = p := by
  by_cases h : p <;> simp [h]
theorem ife32 {p : Prop} {dp : Decidable p} : ((if p then (0 : Int) else 32) = 0) = p := by
  by_cases h : p <;> simp [h]
theorem ife33 {p : Prop} {dp : Decidable p} : ((if p then (0 : Int) else 33) = 0) = p := by
  by_cases h : p <;> simp [h]
theorem ife34 {p : Prop} {dp : Decidable p} : ((if p then (0 : Int) else 34) = 0) = p := by
  by_cases h : p <;> simp [h]
theorem ife35 {p : Prop} {dp : Decidable p} : ((if p then (0 : Int) else 35) = 0) = p := by
  by_cases h : p <;> simp [h]
theorem ife36 {p : Prop} {dp : Decidable p} : ((if p then (0 : Int) else 36) = 0) = p := by
  by_cases h : p <;> simp [h]
theorem ife37 {p : Prop} {dp : Decidable p} : ((if p then (0 : Int) else 37) = 0) = p := by
  by_cases h : p <;> simp [h]
theorem ife38 {p : Prop} {dp : Decidable p} : ((if p then (0 : Int) else 38) = 0) = p := by
  by_cases h : p <;> simp [h]

/-- A step that may stop: the error, and the state behind it. -/
def bindE (x : Int × SS) (f : SS → Int × SS) : Int × SS := if x.1 = 0 then f x.2 else x
theorem bindE_ok {x : Int × SS} {f : SS → Int × SS} (h : x.1 = 0) : bindE x f = f x.2 := if_pos h
theorem bindE_no {x : Int × SS} {f : SS → Int × SS} (h : ¬x.1 = 0) : bindE x f = x := if_neg h
def takeP (s : SS) (a i x : Int) : Int × SS := ((tkR s.pu a i x).2, { s with pu := (tkR s.pu a i x).1 })
def putP (s : SS) (a i x : Int) : Int × SS := ((gvR s.pu a i x).2, { s with pu := (gvR s.pu a i x).1 })
def putV (s : SS) (a i x : Int) : Int × SS := ((gvR s.va a i x).2, { s with va := (gvR s.va a i x).1 })
def vaultV (s : SS) (a i x : Int) : Int × SS := (if (tkR s.va a i x).2 = 0 then 0 else 31, vaultS s a i x)
def holdH (s : SS) (a x : Int) : Int × SS := (if s.he a.toNat + x < 115792089237316195423570985008687907853269984665640564039457584007913129639936 then 0 else 38, holdS s a x)
def freeH (s : SS) (a x : Int) : Int × SS := (if x ≤ s.he a.toNat then 0 else 38, freeS s a x)
def moveP (s : SS) (a b i x : Int) : Int × SS := ((mvR s.pu a b i x).2, { s with pu := (mvR s.pu a b i x).1 })
/-- A state as it may be. -/
structure SOk (s : SS) : Prop where
  pu : ∀ j, Wd (s.pu j)
  va : ∀ j, Wd (s.va j)
  he : ∀ j, Wd (s.he j)
  bu : Wd s.bu
  t0 : 0 ≤ s.time
  t1 : s.time ≤ 1099511627776
theorem wadd_any (x y : Int) (hx : Wd x) (hy : Wd y) : Wd (wadd x y) := by
  unfold wadd Wd at *
  split <;> omega
theorem wsub_any (x y : Int) (hx : Wd x) (hy : Wd y) : Wd (wsub x y) := by
  unfold wsub Wd at *
  split <;> omega
theorem takeP_ok {s : SS} {a i x : Int} (h : SOk s) (hx : Wd x) : SOk (takeP s a i x).2 := ⟨tkR_wd h.pu hx, h.va, h.he, h.bu, h.t0, h.t1⟩
theorem putP_ok {s : SS} {a i x : Int} (h : SOk s) (hx : Wd x) : SOk (putP s a i x).2 := ⟨gvR_wd h.pu hx, h.va, h.he, h.bu, h.t0, h.t1⟩
theorem putV_ok {s : SS} {a i x : Int} (h : SOk s) (hx : Wd x) : SOk (putV s a i x).2 := ⟨h.pu, gvR_wd h.va hx, h.he, h.bu, h.t0, h.t1⟩
theorem vaultV_ok {s : SS} {a i x : Int} (h : SOk s) (hx : Wd x) : SOk (vaultV s a i x).2 := ⟨h.pu, tkR_wd h.va hx, h.he, h.bu, h.t0, h.t1⟩
theorem holdH_ok {s : SS} {a x : Int} (h : SOk s) (hx : Wd x) : SOk (holdH s a x).2 := ⟨h.pu, h.va, fun j => by
  show Wd (upd s.he a.toNat _ j)
  unfold upd
  split
  · exact wadd_any _ _ (h.he _) hx
  · exact h.he j, h.bu, h.t0, h.t1⟩
theorem freeH_ok {s : SS} {a x : Int} (h : SOk s) (hx : Wd x) : SOk (freeH s a x).2 := ⟨h.pu, h.va, fun j => by
  show Wd (upd s.he a.toNat _ j)
  unfold upd
  split
  · exact wsub_any _ _ (h.he _) hx
  · exact h.he j, h.bu, h.t0, h.t1⟩
theorem moveP_ok {s : SS} {a b i x : Int} (h : SOk s) (hx : Wd x) : SOk (moveP s a b i x).2 := ⟨by
  intro j
  show Wd ((mvR s.pu a b i x).1 j)
  unfold mvR
  split
  · split
    · exact gvR_wd (tkR_wd h.pu hx) hx j
    · exact h.pu j
  · exact h.pu j, h.va, h.he, h.bu, h.t0, h.t1⟩
theorem takeP_ (b : Nat) (s : SS) (lv : Value) (a i x : Int) (w : World) (hw : SOk s ∧ Wd x) : CSpec Tryz.prog 136 [.pointer (some ⟨b, 2, none⟩), .int .i64 a, .int .i64 i, .agg (wv x).toArray] [blk b (s.cells lv) 34] w (RE (takeP s a i x).1 (.tuple #[]) [blk b ((takeP s a i x).2.cells lv) 34]) := by
  have h := take_ b 2 (s.cells lv) s.pu a i x w ⟨s.g2 lv, s.len lv, by omega, hw.1.pu, hw.2⟩
  rw [s.s2 lv] at h
  exact h
theorem putP_ (b : Nat) (s : SS) (lv : Value) (a i x : Int) (w : World) (hw : SOk s ∧ Wd x) : CSpec Tryz.prog 137 [.pointer (some ⟨b, 2, none⟩), .int .i64 a, .int .i64 i, .agg (wv x).toArray] [blk b (s.cells lv) 34] w (RE (putP s a i x).1 (.tuple #[]) [blk b ((putP s a i x).2.cells lv) 34]) := by
  have h := put_ b 2 (s.cells lv) s.pu a i x w ⟨s.g2 lv, s.len lv, by omega, hw.1.pu, hw.2⟩
  rw [s.s2 lv] at h
  exact h
theorem putV_ (b : Nat) (s : SS) (lv : Value) (a i x : Int) (w : World) (hw : SOk s ∧ Wd x) : CSpec Tryz.prog 137 [.pointer (some ⟨b, 66, none⟩), .int .i64 a, .int .i64 i, .agg (wv x).toArray] [blk b (s.cells lv) 34] w (RE (putV s a i x).1 (.tuple #[]) [blk b ((putV s a i x).2.cells lv) 34]) := by
  have h := put_ b 66 (s.cells lv) s.va a i x w ⟨s.g3 lv, s.len lv, by omega, hw.1.va, hw.2⟩
  rw [s.s3 lv] at h
  exact h
theorem vaultV_ (b : Nat) (s : SS) (lv : Value) (a i x : Int) (w : World) (hw : SOk s ∧ Wd x) : CSpec Tryz.prog 140 [.pointer (some ⟨b, 0, none⟩), .int .i64 a, .int .i64 i, .agg (wv x).toArray] [blk b (s.cells lv) 34] w (RE (vaultV s a i x).1 (.tuple #[]) [blk b ((vaultV s a i x).2.cells lv) 34]) := vault_ b s lv a i x w ⟨hw.1.va, hw.2⟩
theorem holdH_ (b : Nat) (s : SS) (lv : Value) (a x : Int) (w : World) (hw : SOk s ∧ Wd x ∧ 0 ≤ a ∧ a ≤ 1) : CSpec Tryz.prog 138 [.pointer (some ⟨b, 0, none⟩), .int .i64 a, .agg (wv x).toArray] [blk b (s.cells lv) 34] w (RE (holdH s a x).1 (.tuple #[]) [blk b ((holdH s a x).2.cells lv) 34]) := hold_ b s lv a x w ⟨hw.2.2.1, hw.2.2.2, hw.1.he, hw.2.1⟩
theorem freeH_ (b : Nat) (s : SS) (lv : Value) (a x : Int) (w : World) (hw : SOk s ∧ Wd x ∧ 0 ≤ a ∧ a ≤ 1) : CSpec Tryz.prog 141 [.pointer (some ⟨b, 0, none⟩), .int .i64 a, .agg (wv x).toArray] [blk b (s.cells lv) 34] w (RE (freeH s a x).1 (.tuple #[]) [blk b ((freeH s a x).2.cells lv) 34]) := free_ b s lv a x w ⟨hw.2.2.1, hw.2.2.2, hw.1.he, hw.2.1⟩
/-- Stored, drawn. -/
def storeX (s : SS) (t : Tx) : Int × SS := bindE (takeP s t.fr t.at_ t.am) fun s => bindE (putV s t.ro t.at_ t.am) fun s => holdH s t.at_ t.am
def drawX (s : SS) (t : Tx) : Int × SS := if 2 ≤ t.fr ∧ t.fr < 4 then bindE (vaultV s t.fr t.at_ t.am) fun s => bindE (putP s t.fr t.at_ t.am) fun s => freeH s t.at_ t.am else (37, s)
theorem store_ (b : Nat) (s : SS) (lv : Value) (t : Tx) (w : World) (hw : SOk s ∧ Wd t.am ∧ 0 ≤ t.at_ ∧ t.at_ ≤ 1) : CSpec Tryz.prog 112 [.pointer (some ⟨b, 0, none⟩), .agg t.cells.toArray] [blk b (s.cells lv) 34] w (RE (storeX s t).1 (.tuple #[]) [blk b ((storeX s t).2.cells lv) 34]) := by
  obtain ⟨hs, hx, h0, h1⟩ := hw
  refine spec_of Tryz.func112 rfl Tryz.ntmps112 rfl (l0 := [(0, .pointer (some ⟨b, 0, none⟩)), (1, .agg t.cells.toArray)]) rfl ?_
  intro fp
  repeat' first
    | (with_reducible first | apply J.then_panic | apply J.blk_panic | apply J.sco_panic)
    | ((with_reducible apply J.panic); exact rfl)
    | ((with_reducible apply J.retE1 (takeP_ _ _ _ _ _ _)); exact rfl; exact rfl; (first | exact outs_au | fail); (focus ((refine ⟨?_, ?_⟩ <;> (repeat' (first | with_reducible assumption | exact hs | with_reducible apply takeP_ok | with_reducible apply putP_ok | with_reducible apply putV_ok | with_reducible apply vaultV_ok | with_reducible apply holdH_ok | with_reducible apply freeH_ok))))))
    | ((with_reducible apply J.retE1 (putP_ _ _ _ _ _ _)); exact rfl; exact rfl; (first | exact outs_au | fail); (focus ((refine ⟨?_, ?_⟩ <;> (repeat' (first | with_reducible assumption | exact hs | with_reducible apply takeP_ok | with_reducible apply putP_ok | with_reducible apply putV_ok | with_reducible apply vaultV_ok | with_reducible apply holdH_ok | with_reducible apply freeH_ok))))))
    | ((with_reducible apply J.retE1 (putV_ _ _ _ _ _ _)); exact rfl; exact rfl; (first | exact outs_au | fail); (focus ((refine ⟨?_, ?_⟩ <;> (repeat' (first | with_reducible assumption | exact hs | with_reducible apply takeP_ok | with_reducible apply putP_ok | with_reducible apply putV_ok | with_reducible apply vaultV_ok | with_reducible apply holdH_ok | with_reducible apply freeH_ok))))))
    | ((with_reducible apply J.retE1 (vaultV_ _ _ _ _ _ _)); exact rfl; exact rfl; (first | exact outs_au | fail); (focus ((refine ⟨?_, ?_⟩ <;> (repeat' (first | with_reducible assumption | exact hs | with_reducible apply takeP_ok | with_reducible apply putP_ok | with_reducible apply putV_ok | with_reducible apply vaultV_ok | with_reducible apply holdH_ok | with_reducible apply freeH_ok))))))
    | ((with_reducible apply J.retE1 (holdH_ _ _ _ _ _)); exact rfl; exact rfl; (first | exact outs_au | fail); (focus ((refine ⟨?_, ?_, ?_, ?_⟩ <;> (first | omega | (repeat' (first | with_reducible assumption | exact hs | with_reducible apply takeP_ok | with_reducible apply putP_ok | with_reducible apply putV_ok | with_reducible apply vaultV_ok | with_reducible apply holdH_ok | with_reducible apply freeH_ok)))))))
    | ((with_reducible apply J.retE1 (freeH_ _ _ _ _ _)); exact rfl; exact rfl; (first | exact outs_au | fail); (focus ((refine ⟨?_, ?_, ?_, ?_⟩ <;> (first | omega | (repeat' (first | with_reducible assumption | exact hs | with_reducible apply takeP_ok | with_reducible apply putP_ok | with_reducible apply putV_ok | with_reducible apply vaultV_ok | with_reducible apply holdH_ok | with_reducible apply freeH_ok)))))))
    | refine J.one ?_
    | refine J.loudS ?_
    | (refine J.loudQ ?_; intro _ _)
    | (refine J.loudB ?_; intro _)
    | (with_reducible apply J.list)
    | ((with_reducible apply J.draw (id := 1) [0, 1, 3, 0, 8, 0, 32, 0, 128, 511] (.p 0 (.p 1 (.p 2 (.p 3 (.q 4 (.p 5 (.q 6 (.p 7 (.q 8 (.x 9 .nil .none)))))))))) (by kernel_rfl) ?_ (by kernel_rfl) ?_); (repeat (with_reducible first | exact PanicFree.body | exact PanicFree.np | exact PanicFree.lvS | apply PanicFree.then_ | apply PanicFree.blk)))
    | ((with_reducible apply J.draw (id := 2) [0, 1, 3, 0, 8, 24, 0, 64, 0, 256, 1023] (.p 0 (.p 1 (.p 2 (.p 3 (.p 4 (.q 5 (.p 6 (.q 7 (.p 8 (.q 9 (.x 10 .nil .none))))))))))) (by kernel_rfl) ?_ (by kernel_rfl) ?_); (repeat (with_reducible first | exact PanicFree.body | exact PanicFree.np | exact PanicFree.lvS | apply PanicFree.then_ | apply PanicFree.blk)))
    | ((with_reducible apply J.pl2); exact rfl; (first | exact Gd.none | ((with_reducible apply Gd.on); exact rfl; exact rfl)); (first | exact pend_au | fail))
    | ((with_reducible apply J.pl2_off); exact rfl; ((with_reducible apply Gd.off); exact rfl; exact rfl; exact rfl); exact rfl; (first | exact pend_au | fail))
    | ((with_reducible apply J.pl2_off_none); exact rfl; ((with_reducible apply Gd.off); exact rfl; exact rfl; exact rfl); (first | exact pend_au | fail))
    | ((with_reducible first | apply J.psplit0 | apply J.psplit1 | apply J.psplit2); exact rfl; exact rfl; exact rfl)
    | (with_reducible exact J.pl_none)
    | ((with_reducible apply J.gsplit); exact rfl; exact rfl)
    | ((with_reducible first | apply J.cond | apply JC.cond); exact rfl)
    | (intro h; exfalso; fail)
    | (intro h; (try simp only [decide_eq_true_eq, decide_eq_false_iff_not, beq_iff_eq, beq_eq_false_iff_ne, Bool.not_eq_true', Bool.not_eq_false', bne_iff_ne, bne_eq_false_iff_eq, ne_eq, ge_iff_le, gt_iff_lt] at h))
    | (with_reducible apply J.gave')
    | ((with_reducible apply J.kept'); rotate_left; (first | exact outs_au | fail))
  all_goals
    first
    | (have e := show storeX s t = _ from ((bindE_ok (by assumption)).trans (bindE_ok (by assumption)))
       rw [e]
       (with_reducible apply J.fine); assumption; exact rfl; (first | exact outs_au | fail))
    | (have e := show storeX s t = _ from (bindE_no (by assumption))
       rw [e]
       (with_reducible apply J.stops); assumption; exact rfl)
    | (have e := show storeX s t = _ from ((bindE_ok (by assumption)).trans (bindE_no (by assumption)))
       rw [e]
       (with_reducible apply J.stops); assumption; exact rfl)
    | (have e := show storeX s t = _ from ((bindE_ok (by assumption)).trans (bindE_ok (by assumption)))
       rw [e]
       (with_reducible apply J.stops); assumption; exact rfl)
    | (trace_state; fail)
theorem drawX_in {s : SS} {t : Tx} (h : 2 ≤ t.fr) (h2 : t.fr < 4) : drawX s t = bindE (vaultV s t.fr t.at_ t.am) fun s => bindE (putP s t.fr t.at_ t.am) fun s => freeH s t.at_ t.am := if_pos ⟨h, h2⟩
theorem drawX_out {s : SS} {t : Tx} (h : ¬(2 ≤ t.fr ∧ t.fr < 4)) : drawX s t = (37, s) := if_neg h
theorem draw_ (b : Nat) (s : SS) (lv : Value) (t : Tx) (w : World) (hw : SOk s ∧ Wd t.am ∧ 0 ≤ t.at_ ∧ t.at_ ≤ 1) : CSpec Tryz.prog 113 [.pointer (some ⟨b, 0, none⟩), .agg t.cells.toArray] [blk b (s.cells lv) 34] w (RE (drawX s t).1 (.tuple #[]) [blk b ((drawX s t).2.cells lv) 34]) := by
  obtain ⟨hs, hx, h0, h1⟩ := hw
  refine spec_of Tryz.func113 rfl Tryz.ntmps113 rfl (l0 := [(0, .pointer (some ⟨b, 0, none⟩)), (1, .agg t.cells.toArray)]) rfl ?_
  intro fp
  repeat' first
    | (with_reducible first | apply J.then_panic | apply J.blk_panic | apply J.sco_panic)
    | ((with_reducible apply J.panic); exact rfl)
    | (intro h; simp only [ife30, ife31, ife32, ife33, ife34, ife35, ife36, ife37, ife38, ne_eq, Bool.false_eq_true, not_true_eq_false, reduceCtorEq, decide_eq_true_eq, decide_eq_false_iff_not, ge_iff_le, gt_iff_lt] at h)
    | ((with_reducible apply J.retE1 (takeP_ _ _ _ _ _ _)); exact rfl; exact rfl; (first | exact outs_au | fail); (focus ((refine ⟨?_, ?_⟩ <;> (repeat' (first | with_reducible assumption | exact hs | with_reducible apply takeP_ok | with_reducible apply putP_ok | with_reducible apply putV_ok | with_reducible apply vaultV_ok | with_reducible apply holdH_ok | with_reducible apply freeH_ok))))))
    | ((with_reducible apply J.retE1 (putP_ _ _ _ _ _ _)); exact rfl; exact rfl; (first | exact outs_au | fail); (focus ((refine ⟨?_, ?_⟩ <;> (repeat' (first | with_reducible assumption | exact hs | with_reducible apply takeP_ok | with_reducible apply putP_ok | with_reducible apply putV_ok | with_reducible apply vaultV_ok | with_reducible apply holdH_ok | with_reducible apply freeH_ok))))))
    | ((with_reducible apply J.retE1 (putV_ _ _ _ _ _ _)); exact rfl; exact rfl; (first | exact outs_au | fail); (focus ((refine ⟨?_, ?_⟩ <;> (repeat' (first | with_reducible assumption | exact hs | with_reducible apply takeP_ok | with_reducible apply putP_ok | with_reducible apply putV_ok | with_reducible apply vaultV_ok | with_reducible apply holdH_ok | with_reducible apply freeH_ok))))))
    | ((with_reducible apply J.retE1 (vaultV_ _ _ _ _ _ _)); exact rfl; exact rfl; (first | exact outs_au | fail); (focus ((refine ⟨?_, ?_⟩ <;> (repeat' (first | with_reducible assumption | exact hs | with_reducible apply takeP_ok | with_reducible apply putP_ok | with_reducible apply putV_ok | with_reducible apply vaultV_ok | with_reducible apply holdH_ok | with_reducible apply freeH_ok))))))
    | ((with_reducible apply J.retE1 (holdH_ _ _ _ _ _)); exact rfl; exact rfl; (first | exact outs_au | fail); (focus ((refine ⟨?_, ?_, ?_, ?_⟩ <;> (first | omega | (repeat' (first | with_reducible assumption | exact hs | with_reducible apply takeP_ok | with_reducible apply putP_ok | with_reducible apply putV_ok | with_reducible apply vaultV_ok | with_reducible apply holdH_ok | with_reducible apply freeH_ok)))))))
    | ((with_reducible apply J.retE1 (freeH_ _ _ _ _ _)); exact rfl; exact rfl; (first | exact outs_au | fail); (focus ((refine ⟨?_, ?_, ?_, ?_⟩ <;> (first | omega | (repeat' (first | with_reducible assumption | exact hs | with_reducible apply takeP_ok | with_reducible apply putP_ok | with_reducible apply putV_ok | with_reducible apply vaultV_ok | with_reducible apply holdH_ok | with_reducible apply freeH_ok)))))))
    | ((with_reducible apply J.retER (needP_ _ _ _)); exact rfl; exact rfl; exact RH.of (by decide))
    | ((with_reducible apply J.retER (need_ _ _)); exact rfl; exact rfl; exact RH.of (by decide))
    | refine J.one ?_
    | refine J.loudS ?_
    | (refine J.loudQ ?_; intro _ _)
    | (refine J.loudB ?_; intro _)
    | (with_reducible apply J.list)
    | ((with_reducible apply J.draw (id := 3) [0, 1, 3, 0, 8, 0, 32, 0, 128, 511] (.p 0 (.p 1 (.p 2 (.p 3 (.q 4 (.p 5 (.q 6 (.p 7 (.q 8 (.x 9 .nil .none)))))))))) (by kernel_rfl) ?_ (by kernel_rfl) ?_); (repeat (with_reducible first | exact PanicFree.body | exact PanicFree.np | exact PanicFree.lvS | apply PanicFree.then_ | apply PanicFree.blk)))
    | ((with_reducible apply J.pl2); exact rfl; (first | exact Gd.none | ((with_reducible apply Gd.on); exact rfl; exact rfl)); (first | exact pend_au | fail))
    | ((with_reducible apply J.pl2_off); exact rfl; ((with_reducible apply Gd.off); exact rfl; exact rfl; exact rfl); exact rfl; (first | exact pend_au | fail))
    | ((with_reducible apply J.pl2_off_none); exact rfl; ((with_reducible apply Gd.off); exact rfl; exact rfl; exact rfl); (first | exact pend_au | fail))
    | ((with_reducible first | apply J.psplit0 | apply J.psplit1 | apply J.psplit2); exact rfl; exact rfl; exact rfl)
    | (with_reducible exact J.pl_none)
    | ((with_reducible apply J.gsplit); exact rfl; exact rfl)
    | ((with_reducible first | apply J.cond | apply JC.cond); exact rfl)
    | (intro h; exfalso; fail)
    | (intro h; (try simp only [decide_eq_true_eq, decide_eq_false_iff_not, beq_iff_eq, beq_eq_false_iff_ne, Bool.not_eq_true', Bool.not_eq_false', bne_iff_ne, bne_eq_false_iff_eq, ne_eq, ge_iff_le, gt_iff_lt] at h))
    | (with_reducible apply J.gave')
    | ((with_reducible apply J.kept'); rotate_left; (first | exact outs_au | fail))
  all_goals
    first
    | (have e := show drawX s t = _ from (drawX_in (by assumption) (by assumption)).trans ((bindE_ok (by assumption)).trans (bindE_ok (by assumption)))
       rw [e]
       (with_reducible apply J.fine); assumption; exact rfl; (first | exact outs_au | fail))
    | (have e := show drawX s t = _ from (drawX_in (by assumption) (by assumption)).trans (bindE_no (by assumption))
       rw [e]
       (with_reducible apply J.stops); assumption; exact rfl)
    | (have e := show drawX s t = _ from (drawX_in (by assumption) (by assumption)).trans ((bindE_ok (by assumption)).trans (bindE_no (by assumption)))
       rw [e]
       (with_reducible apply J.stops); assumption; exact rfl)
    | (have e := show drawX s t = _ from (drawX_in (by assumption) (by assumption)).trans ((bindE_ok (by assumption)).trans (bindE_ok (by assumption)))
       rw [e]
       (with_reducible apply J.stops); assumption; exact rfl)
    | (rw [drawX_out (by omega)]
       (with_reducible apply J.stops)
       · exact (by decide : (37 : Int) ≠ 0)
       · first | rfl | exact if_neg (by assumption))
    | (trace_state; fail)
end Go.Proofs.YtljbedladifgmaaGreat.Do
namespace Go.Proofs.YtljbedladifgmaaGreat.Prep
open Go Go.RowKit Eng
set_option linter.unusedVariables false
set_option maxRecDepth 100000
set_option linter.unusedSimpArgs false
open Wide Purse Tx Sha Ss Esc Vau Lck Do Deal Mss Ots Hash Bytes
set_option maxHeartbeats 1000000
/-- What is left of a state: its cells, and its locks. -/
def StR (b : Nat) (s : SS) (L : List Lk) : Ending → List Asrt → Prop := fun e H => ∃ q : Option Addr × Nat, L.length ≤ q.2 ∧ e = .returned (.tuple #[]) ∧ H = [blk b (s.cells (.slice q.1 L.length q.2)) 34, row (.slice q.1 L.length q.2) 58 3 L.length (lcs L)]
abbrev DoE (b : Nat) (s : SS) (L : List Lk) (err : Int) := RetX 139 err (StR b s L)
theorem J.endDo {c : Cx} {l : TL} {H R : List Asrt} {b n cap : Nat} {s s' : SS} {L : List Lk} {err : Int} {ao : Option Addr} {C : List Value} {r : Value} (hr : r = .tuple #[]) (ho : Outs [blk b (s'.cells (.slice ao n cap)) 34, row (.slice ao n cap) 58 3 n C] H R) (he : err = 0) (es : s' = s) (hn : n = L.length) (hC : C = lcs L) : J c l H (fun _ w => ∃ H3, DoE b s L err (.returned r) H3 ∧ Sat c.w0 c.own H3 w) := by
  subst es hn hC hr
  refine J.mk fun a w st => ?_
  have hq : L.length ≤ cap := by
    have h1 := st.2.2.perm ho.perm
    exact (h1.rd_row (.there .here)).2.1
  exact (J.fineX (H2 := [blk b (s'.cells (.slice ao L.length cap)) 34, row (.slice ao L.length cap) 58 3 L.length (lcs L)]) he ⟨(ao, cap), hq, rfl, rfl⟩ ho).out a w st
/-- A transaction as it may be. -/
structure TOk (t : Tx) : Prop where
  am : Wd t.am
  va : Wd t.va
  fee : Wd t.fee
  at0 : 0 ≤ t.at_
  at1 : t.at_ ≤ 1
  ex0 : 4 ≤ t.ki → 0 ≤ t.ex
  ex1 : 4 ≤ t.ki → t.ex ≤ 1099511627776
  se0 : 4 ≤ t.ki → 0 ≤ t.se
  se1 : 4 ≤ t.ki → t.se ≤ 1
  re0 : 4 ≤ t.ki → 0 ≤ t.re
  re1 : 4 ≤ t.ki → t.re ≤ 1
/-- Prepared. -/
noncomputable def prepX (s : SS) (L : List Lk) (t : Tx) : Int × SS :=
  if plc L (keyT t) < 0 then (if s.time < t.ex ∧ t.ex - s.time ≤ 1024 then (if s.side = 1 then (if t.fr = t.ro then vaultV s t.fr t.re t.va else (37, s)) else (if t.fr = t.us then bindE (takeP s t.fr t.se t.va) (fun s => holdH s t.se t.va) else (37, s))) else (34, s)) else (32, s)
def prepL (L : List Lk) (t : Tx) : List Lk := L ++ [⟨keyT t, digT t, 1⟩]
theorem lcs_add (L : List Lk) (k d : List UInt8) : lcs L ++ [str k, str d, .int .i64 1] = lcs (L ++ [⟨k, d, 1⟩]) := by
  unfold lcs
  rw [List.map_append, List.flatten_append]
  rfl
theorem prep_ (b : Nat) (s : SS) (ao : Option Addr) (cap : Nat) (L : List Lk) (t : Tx) (w : World) (hw : SOk s ∧ TOk t ∧ 4 ≤ t.ki ∧ L.length + 1 ≤ maxLen ∧ (L.length + 1) * 40 ≤ 140737488355328) : CSpec Tryz.prog 114 [.pointer (some ⟨b, 0, none⟩), .agg t.cells.toArray] [blk b (s.cells (.slice ao L.length cap)) 34, row (.slice ao L.length cap) 58 3 L.length (lcs L)] w (DoE b (prepX s L t).2 (prepL L t) (prepX s L t).1) := by
  obtain ⟨hs, ht, hk, hm1, hb⟩ := hw
  have hm : L.length ≤ maxLen := by omega
  refine spec_of Tryz.func114 rfl Tryz.ntmps114 rfl (l0 := [(0, .pointer (some ⟨b, 0, none⟩)), (1, .agg t.cells.toArray)]) rfl ?_
  intro fp
  repeat' first
    | (with_reducible first | apply J.then_panic | apply J.blk_panic | apply J.sco_panic)
    | ((with_reducible apply J.panic); exact rfl)
    | (intro h; simp only [ife30, ife31, ife32, ife33, ife34, ife35, ife36, ife37, ife38, ne_eq, Bool.false_eq_true, not_true_eq_false, reduceCtorEq, decide_eq_true_eq, decide_eq_false_iff_not, ge_iff_le, gt_iff_lt] at h)
    | (refine J.qv ?_; (with_reducible apply exq); focus (first
      | ((with_reducible apply Qv.sub); exact rfl; exact rfl; exact wr64 (by first | omega | (have h7 := hs.t0; have h8 := hs.t1; have h9 := ht.ex0 hk; have h10 := ht.ex1 hk; omega)) (by first | omega | (have h7 := hs.t0; have h8 := hs.t1; have h9 := ht.ex0 hk; have h10 := ht.ex1 hk; omega)) rfl)))
    | (refine J.qr ?_; (with_reducible apply exq); focus (first
      | ((with_reducible apply Qr.ldSide); exact rfl; (focus ((repeat (first | with_reducible exact In.here | with_reducible apply In.there)); done)))
      | ((with_reducible apply Qr.ldTime); exact rfl; (focus ((repeat (first | with_reducible exact In.here | with_reducible apply In.there)); done)))
      | ((with_reducible apply Qr.ldLv); exact rfl; (focus ((repeat (first | with_reducible exact In.here | with_reducible apply In.there)); done)))))
    | (refine J.qo ?_; refine ⟨?_, ?_⟩; focus (first
      | ((with_reducible apply Qr.ldSide); exact rfl; (focus ((repeat (first | with_reducible exact In.here | with_reducible apply In.there)); done)))
      | ((with_reducible apply Qr.ldTime); exact rfl; (focus ((repeat (first | with_reducible exact In.here | with_reducible apply In.there)); done)))
      | ((with_reducible apply Qr.ldLv); exact rfl; (focus ((repeat (first | with_reducible exact In.here | with_reducible apply In.there)); done)))))
    | ((with_reducible apply J.appendR); exact rfl; exact rfl; (repeat (first | with_reducible exact Out.here | with_reducible apply Out.there)); exact rfl; exact RH.blk0 (by (repeat (first | with_reducible exact In.here | with_reducible apply In.there))); exact rfl; exact rfl; exact rfl; exact rfl; omega; omega; intro _ _)
    | ((with_reducible apply J.stLv); exact rfl; exact rfl; (repeat (first | with_reducible exact Upd.here | with_reducible apply Upd.there)))
    | ((with_reducible apply J.givesR (key_ t.us t.rt t.ro t.se t.re t.to t.id)); exact rfl; exact rfl; focus (exact RH.true_))
    | ((with_reducible apply J.givesR (place_ _ _ _ _ _ L (keyT t))); exact rfl; exact rfl; focus (exact (RH.and (RH.and (RH.blk0 (by (repeat (first | with_reducible exact In.here | with_reducible apply In.there)))) (RH.row (by (repeat (first | with_reducible exact In.here | with_reducible apply In.there))))) (RH.of ⟨rfl, hm⟩))))
    | ((with_reducible apply J.givesR (digest_ t.us t.rt t.ro t.se t.re t.to t.id t.va t.ex)); exact rfl; exact rfl; focus (exact RH.of ht.va))
    | ((with_reducible apply J.retER (needE_ _ _ _)); exact rfl; exact rfl; exact RH.of (by decide))
    | ((with_reducible apply J.retER (needP_ _ _ _)); exact rfl; exact rfl; exact RH.of (by decide))
    | ((with_reducible apply J.retER (need_ _ _)); exact rfl; exact rfl; exact RH.of (by decide))
    | ((with_reducible apply J.retE1 (takeP_ _ _ _ _ _ _)); exact rfl; exact rfl; (first | exact outs_au | fail); (focus ((refine ⟨?_, ?_⟩ <;> (repeat' (first | with_reducible assumption | exact hs | exact ht.va | exact ht.fee | exact ht.am | with_reducible apply takeP_ok | with_reducible apply putP_ok | with_reducible apply putV_ok | with_reducible apply vaultV_ok | with_reducible apply holdH_ok | with_reducible apply freeH_ok | with_reducible apply moveP_ok | with_reducible apply wsub_any))))))
    | ((with_reducible apply J.retE1 (putP_ _ _ _ _ _ _)); exact rfl; exact rfl; (first | exact outs_au | fail); (focus ((refine ⟨?_, ?_⟩ <;> (repeat' (first | with_reducible assumption | exact hs | exact ht.va | exact ht.fee | exact ht.am | with_reducible apply takeP_ok | with_reducible apply putP_ok | with_reducible apply putV_ok | with_reducible apply vaultV_ok | with_reducible apply holdH_ok | with_reducible apply freeH_ok | with_reducible apply moveP_ok | with_reducible apply wsub_any))))))
    | ((with_reducible apply J.retE1 (putV_ _ _ _ _ _ _)); exact rfl; exact rfl; (first | exact outs_au | fail); (focus ((refine ⟨?_, ?_⟩ <;> (repeat' (first | with_reducible assumption | exact hs | exact ht.va | exact ht.fee | exact ht.am | with_reducible apply takeP_ok | with_reducible apply putP_ok | with_reducible apply putV_ok | with_reducible apply vaultV_ok | with_reducible apply holdH_ok | with_reducible apply freeH_ok | with_reducible apply moveP_ok | with_reducible apply wsub_any))))))
    | ((with_reducible apply J.retE1 (vaultV_ _ _ _ _ _ _)); exact rfl; exact rfl; (first | exact outs_au | fail); (focus ((refine ⟨?_, ?_⟩ <;> (repeat' (first | with_reducible assumption | exact hs | exact ht.va | exact ht.fee | exact ht.am | with_reducible apply takeP_ok | with_reducible apply putP_ok | with_reducible apply putV_ok | with_reducible apply vaultV_ok | with_reducible apply holdH_ok | with_reducible apply freeH_ok | with_reducible apply moveP_ok | with_reducible apply wsub_any))))))
    | ((with_reducible apply J.retE1 (holdH_ _ _ _ _ _)); exact rfl; exact rfl; (first | exact outs_au | fail); (focus ((refine ⟨?_, ?_, ?_, ?_⟩ <;> (first | exact ht.se0 hk | exact ht.se1 hk | exact ht.re0 hk | exact ht.re1 hk | (repeat' (first | with_reducible assumption | exact hs | exact ht.va | exact ht.fee | exact ht.am | with_reducible apply takeP_ok | with_reducible apply putP_ok | with_reducible apply putV_ok | with_reducible apply vaultV_ok | with_reducible apply holdH_ok | with_reducible apply freeH_ok | with_reducible apply moveP_ok | with_reducible apply wsub_any)))))))
    | ((with_reducible apply J.retE1 (freeH_ _ _ _ _ _)); exact rfl; exact rfl; (first | exact outs_au | fail); (focus ((refine ⟨?_, ?_, ?_, ?_⟩ <;> (first | exact ht.se0 hk | exact ht.se1 hk | exact ht.re0 hk | exact ht.re1 hk | (repeat' (first | with_reducible assumption | exact hs | exact ht.va | exact ht.fee | exact ht.am | with_reducible apply takeP_ok | with_reducible apply putP_ok | with_reducible apply putV_ok | with_reducible apply vaultV_ok | with_reducible apply holdH_ok | with_reducible apply freeH_ok | with_reducible apply moveP_ok | with_reducible apply wsub_any)))))))
    | refine J.one ?_
    | refine J.loudS ?_
    | (refine J.loudQ ?_; intro _ _)
    | (refine J.loudB ?_; intro _)
    | (with_reducible apply J.list)
    | ((with_reducible apply J.draw (id := 3) [0, 1, 3, 0, 8, 24, 56, 127, 255, 511, 1023, 2047, 511, 4607, 12799, 29183, 65535, 131071, 262143, 524287] (.p 0 (.p 1 (.q 2 (.p 3 (.p 4 (.p 5 (.q 6 (.p 7 (.p 8 (.p 9 (.p 10 (.q 11 (.p 12 (.p 13 (.p 14 (.q 15 (.p 16 (.p 17 (.p 18 (.x 19 .nil .none)))))))))))))))))))) (by kernel_rfl) ?_ (by kernel_rfl) ?_); (repeat (with_reducible first | exact PanicFree.body | exact PanicFree.np | exact PanicFree.lvS | apply PanicFree.then_ | apply PanicFree.blk)))
    | ((with_reducible apply J.draw (id := 8) [0, 1, 3, 0, 8, 0, 32, 96, 0, 256, 768, 2047] (.p 0 (.p 1 (.p 2 (.p 3 (.q 4 (.p 5 (.p 6 (.q 7 (.p 8 (.p 9 (.q 10 (.x 11 .nil .none)))))))))))) (by kernel_rfl) ?_ (by kernel_rfl) ?_); (repeat (with_reducible first | exact PanicFree.body | exact PanicFree.np | exact PanicFree.lvS | apply PanicFree.then_ | apply PanicFree.blk)))
    | ((with_reducible apply J.draw (id := 10) [0, 0, 2, 6, 14, 0, 0, 64, 0, 256, 960, 2016, 4064, 8190, 16383, 32767, 65535] (.p 0 (.p 1 (.p 2 (.p 3 (.q 4 (.p 5 (.p 6 (.q 7 (.p 8 (.q 9 (.x 10 (.p 11 (.x 12 (.x 13 (.p 14 (.p 15 (.x 16 .nil .none))) .none) .none)) .none))))))))))) (by kernel_rfl) ?_ (by kernel_rfl) ?_); (repeat (with_reducible first | exact PanicFree.body | exact PanicFree.np | exact PanicFree.lvS | apply PanicFree.then_ | apply PanicFree.blk)))
    | ((with_reducible apply J.pl2); exact rfl; (first | exact Gd.none | ((with_reducible apply Gd.on); exact rfl; exact rfl)); (first | exact pend_au | fail))
    | ((with_reducible apply J.pl2_off); exact rfl; ((with_reducible apply Gd.off); exact rfl; exact rfl; exact rfl); exact rfl; (first | exact pend_au | fail))
    | ((with_reducible apply J.pl2_off_none); exact rfl; ((with_reducible apply Gd.off); exact rfl; exact rfl; exact rfl); (first | exact pend_au | fail))
    | ((with_reducible first | apply J.psplit0 | apply J.psplit1 | apply J.psplit2); exact rfl; exact rfl; exact rfl)
    | (with_reducible exact J.pl_none)
    | ((with_reducible apply J.gsplit); exact rfl; exact rfl)
    | ((with_reducible first | apply J.cond | apply JC.cond); exact rfl)
    | (intro h; exfalso; fail)
    | (intro h; (try simp only [decide_eq_true_eq, decide_eq_false_iff_not, beq_iff_eq, beq_eq_false_iff_ne, Bool.not_eq_true', Bool.not_eq_false', bne_iff_ne, bne_eq_false_iff_eq, ne_eq, ge_iff_le, gt_iff_lt] at h))
    | (with_reducible apply J.gave')
    | ((with_reducible apply J.kept'); rotate_left; (first | exact outs_au | fail))
  all_goals
    first
    | (have e := show prepX s L t = _ from ((((if_pos (by assumption)).trans (if_pos (by omega))).trans (if_pos (by assumption))).trans (if_pos (by assumption)))
       rw [e]
       (with_reducible apply J.endDo)
       · exact rfl
       · (first | exact outs_au | fail)
       · assumption
       · rfl
       · simp [prepL]
       · exact lcs_add _ _ _)
    | (have e := show prepX s L t = _ from ((((if_pos (by assumption)).trans (if_pos (by omega))).trans (if_pos (by assumption))).trans (if_pos (by assumption)))
       rw [e]
       (with_reducible apply J.stopX); assumption; exact rfl)
    | (have e := show prepX s L t = _ from (((((if_pos (by assumption)).trans (if_pos (by omega))).trans (if_neg (by assumption))).trans (if_pos (by assumption))).trans (bindE_ok (by assumption)))
       rw [e]
       (with_reducible apply J.endDo)
       · exact rfl
       · (first | exact outs_au | fail)
       · assumption
       · rfl
       · simp [prepL]
       · exact lcs_add _ _ _)
    | (have e := show prepX s L t = _ from (((((if_pos (by assumption)).trans (if_pos (by omega))).trans (if_neg (by assumption))).trans (if_pos (by assumption))).trans (bindE_ok (by assumption)))
       rw [e]
       (with_reducible apply J.stopX); assumption; exact rfl)
    | (have e := show prepX s L t = _ from (((((if_pos (by assumption)).trans (if_pos (by omega))).trans (if_neg (by assumption))).trans (if_pos (by assumption))).trans (bindE_no (by assumption)))
       rw [e]
       (with_reducible apply J.stopX); assumption; exact rfl)
    | (have e := show prepX s L t = _ from (if_neg (by assumption))
       rw [e]
       (with_reducible apply J.stopX)
       · exact (by decide : (32 : Int) ≠ 0)
       · first | rfl | exact if_neg (by first | assumption | simp))
    | (have e := show prepX s L t = _ from ((if_pos (by assumption)).trans (if_neg (by omega)))
       rw [e]
       (with_reducible apply J.stopX)
       · exact (by decide : (34 : Int) ≠ 0)
       · first | rfl | exact if_neg (by first | assumption | simp))
    | (have e := show prepX s L t = _ from ((((if_pos (by assumption)).trans (if_pos (by omega))).trans (if_pos (by assumption))).trans (if_neg (by assumption)))
       rw [e]
       (with_reducible apply J.stopX)
       · exact (by decide : (37 : Int) ≠ 0)
       · first | rfl | exact if_neg (by first | assumption | simp))
    | (have e := show prepX s L t = _ from ((((if_pos (by assumption)).trans (if_pos (by omega))).trans (if_neg (by assumption))).trans (if_neg (by assumption)))
       rw [e]
       (with_reducible apply J.stopX)
       · exact (by decide : (37 : Int) ≠ 0)
       · first | rfl | exact if_neg (by first | assumption | simp))
    | (trace_state; fail)
end Go.Proofs.YtljbedladifgmaaGreat.Prep
namespace Go.Proofs.YtljbedladifgmaaGreat.Ful
open Go Go.RowKit Eng
set_option linter.unusedVariables false
set_option maxRecDepth 100000
set_option linter.unusedSimpArgs false
open Wide Purse Tx Sha Ss Esc Vau Lck Do Prep Deal Mss Ots Hash Bytes
set_option maxHeartbeats 1000000
/-- A lock has another status. -/
def stL (L : List Lk) (k : Nat) (x : Int) : List Lk := L.set k { L.getD k lk0 with st := x }
theorem stL_length (L : List Lk) (k : Nat) (x : Int) : (stL L k x).length = L.length := by simp [stL]
theorem lcs_set : ∀ {L : List Lk} {k : Nat} (h : k < L.length) (x : Int), splice (lcs L) (k * 3 + 2) [.int .i64 x] = lcs (stL L k x)
  | a :: L, 0, _, x => by
    simp [lcs, Lk.cells, splice, stL]
  | a :: L, k + 1, h, x => by
    have ih := lcs_set (L := L) (k := k) (by simpa using h) x
    have e1 : lcs (a :: L) = a.cells ++ lcs L := rfl
    have e2 : stL (a :: L) (k + 1) x = a :: stL L k x := by simp [stL]
    have e3 : lcs (a :: stL L k x) = a.cells ++ lcs (stL L k x) := rfl
    rw [e1, e2, e3, ← ih]
    have hl : a.cells.length = 3 := rfl
    unfold splice
    rw [show (k + 1) * 3 + 2 = a.cells.length + (k * 3 + 2) by rw [hl]; omega, List.take_append, List.drop_append]
    rw [List.take_of_length_le (by omega), List.drop_eq_nil_of_le (by omega)]
    simp only [List.append_assoc, List.nil_append]
    congr 4 <;> omega
theorem lockE_lt {L : List Lk} {t : Tx} (h : lockE L t = 0) : (plc L (keyT t)).toNat < L.length := by
  have h9 : plc L (keyT t) < L.length := findI_lt
  by_cases h0 : 0 ≤ plc L (keyT t)
  · omega
  · unfold lockE at h
    rw [if_neg h0] at h
    exact absurd h (by decide)
/-- Fulfilled, cancelled. -/
noncomputable def fulX (s : SS) (L : List Lk) (t : Tx) : Int × SS :=
  if lockE L t = 0 then (if s.time < t.ex then (if t.fee ≤ t.va then (if sgF t 1 = true then (if s.side = 1 then bindE (putP s t.to t.re (wsub t.va t.fee)) (fun s => bindE (putP s t.fr t.re t.fee) (fun s => freeH s t.re t.va)) else putV s t.ro t.se t.va) else (35, s)) else (36, s)) else (34, s)) else (lockE L t, s)
noncomputable def canX (s : SS) (L : List Lk) (t : Tx) : Int × SS :=
  if lockE L t = 0 then (if s.side = 1 then (if ¬ s.time < t.ex ∨ sgF t 2 = true then putV s t.ro t.re t.va else (35, s)) else (if ¬ s.time < t.ex ∨ t.fr = t.ro then bindE (putP s t.us t.se t.va) (fun s => freeH s t.se t.va) else (37, s))) else (lockE L t, s)
noncomputable def endL (L : List Lk) (t : Tx) (x : Int) : List Lk := stL L (plc L (keyT t)).toNat x
theorem ful_ (b : Nat) (s : SS) (ao : Option Addr) (cap : Nat) (L : List Lk) (t : Tx) (w : World) (hw : SOk s ∧ TOk t ∧ 4 ≤ t.ki ∧ L.length ≤ maxLen) : CSpec Tryz.prog 115 [.pointer (some ⟨b, 0, none⟩), .agg t.cells.toArray] [blk b (s.cells (.slice ao L.length cap)) 34, row (.slice ao L.length cap) 58 3 L.length (lcs L)] w (DoE b (fulX s L t).2 (endL L t 2) (fulX s L t).1) := by
  obtain ⟨hs, ht, hk, hm⟩ := hw
  refine spec_of Tryz.func115 rfl Tryz.ntmps115 rfl (l0 := [(0, .pointer (some ⟨b, 0, none⟩)), (1, .agg t.cells.toArray)]) rfl ?_
  intro fp
  repeat' first
    | (with_reducible first | apply J.then_panic | apply J.blk_panic | apply J.sco_panic)
    | ((with_reducible apply J.panic); exact rfl)
    | (intro h; simp only [ife30, ife31, ife32, ife33, ife34, ife35, ife36, ife37, ife38, ne_eq, Bool.false_eq_true, not_true_eq_false, reduceCtorEq, decide_eq_true_eq, decide_eq_false_iff_not, ge_iff_le, gt_iff_lt] at h)
    | (refine J.qv ?_; (with_reducible apply exq); focus (first
      | ((with_reducible apply Qv.fieldAdd); exact rfl)))
    | (refine J.qr ?_; (with_reducible apply exq); focus (first
      | ((with_reducible apply Qr.ldSide); exact rfl; (focus ((repeat (first | with_reducible exact In.here | with_reducible apply In.there)); done)))
      | ((with_reducible apply Qr.ldTime); exact rfl; (focus ((repeat (first | with_reducible exact In.here | with_reducible apply In.there)); done)))
      | ((with_reducible apply Qr.ldLv); exact rfl; (focus ((repeat (first | with_reducible exact In.here | with_reducible apply In.there)); done)))))
    | (refine J.qo ?_; refine ⟨?_, ?_⟩; focus (first
      | ((with_reducible apply Qr.ldSide); exact rfl; (focus ((repeat (first | with_reducible exact In.here | with_reducible apply In.there)); done)))
      | ((with_reducible apply Qr.ldTime); exact rfl; (focus ((repeat (first | with_reducible exact In.here | with_reducible apply In.there)); done)))
      | ((with_reducible apply Qr.ldLv); exact rfl; (focus ((repeat (first | with_reducible exact In.here | with_reducible apply In.there)); done)))))
    | ((with_reducible apply J.cellR); exact rfl; exact rfl; exact rfl; (repeat (first | with_reducible exact Upd.here | with_reducible apply Upd.there)); (rw [lcs_length]; have h7 := lockE_lt (by assumption); omega); exact lcs_set (lockE_lt (by assumption)) _)
    | ((with_reducible apply J.allocW); exact rfl; exact rfl; intro _)
    | ((with_reducible apply J.retER (lock_ _ _ _ _ _ L t)); exact rfl; exact rfl; exact RH.and (RH.and (RH.blk0 (by (repeat (first | with_reducible exact In.here | with_reducible apply In.there)))) (RH.row (by (repeat (first | with_reducible exact In.here | with_reducible apply In.there))))) (RH.of ⟨rfl, hm, ht.va⟩))
    | ((with_reducible apply J.givesR (signed_ t _)); exact rfl; exact rfl; exact RH.of ht.fee.1)
    | ((with_reducible apply J.givesP (Wide.sub _ _)); exact rfl; exact rfl; exact ⟨ht.va, ht.fee⟩)
    | ((with_reducible apply J.retE1 (takeP_ _ _ _ _ _ _)); exact rfl; exact rfl; (first | exact outs_au | fail); (focus ((refine ⟨?_, ?_⟩ <;> (repeat' (first | with_reducible assumption | exact hs | exact ht.va | exact ht.fee | exact ht.am | with_reducible apply takeP_ok | with_reducible apply putP_ok | with_reducible apply putV_ok | with_reducible apply vaultV_ok | with_reducible apply holdH_ok | with_reducible apply freeH_ok | with_reducible apply moveP_ok | with_reducible apply wsub_any))))))
    | ((with_reducible apply J.retE1 (putP_ _ _ _ _ _ _)); exact rfl; exact rfl; (first | exact outs_au | fail); (focus ((refine ⟨?_, ?_⟩ <;> (repeat' (first | with_reducible assumption | exact hs | exact ht.va | exact ht.fee | exact ht.am | with_reducible apply takeP_ok | with_reducible apply putP_ok | with_reducible apply putV_ok | with_reducible apply vaultV_ok | with_reducible apply holdH_ok | with_reducible apply freeH_ok | with_reducible apply moveP_ok | with_reducible apply wsub_any))))))
    | ((with_reducible apply J.retE1 (putV_ _ _ _ _ _ _)); exact rfl; exact rfl; (first | exact outs_au | fail); (focus ((refine ⟨?_, ?_⟩ <;> (repeat' (first | with_reducible assumption | exact hs | exact ht.va | exact ht.fee | exact ht.am | with_reducible apply takeP_ok | with_reducible apply putP_ok | with_reducible apply putV_ok | with_reducible apply vaultV_ok | with_reducible apply holdH_ok | with_reducible apply freeH_ok | with_reducible apply moveP_ok | with_reducible apply wsub_any))))))
    | ((with_reducible apply J.retE1 (vaultV_ _ _ _ _ _ _)); exact rfl; exact rfl; (first | exact outs_au | fail); (focus ((refine ⟨?_, ?_⟩ <;> (repeat' (first | with_reducible assumption | exact hs | exact ht.va | exact ht.fee | exact ht.am | with_reducible apply takeP_ok | with_reducible apply putP_ok | with_reducible apply putV_ok | with_reducible apply vaultV_ok | with_reducible apply holdH_ok | with_reducible apply freeH_ok | with_reducible apply moveP_ok | with_reducible apply wsub_any))))))
    | ((with_reducible apply J.retE1 (holdH_ _ _ _ _ _)); exact rfl; exact rfl; (first | exact outs_au | fail); (focus ((refine ⟨?_, ?_, ?_, ?_⟩ <;> (first | exact ht.se0 hk | exact ht.se1 hk | exact ht.re0 hk | exact ht.re1 hk | (repeat' (first | with_reducible assumption | exact hs | exact ht.va | exact ht.fee | exact ht.am | with_reducible apply takeP_ok | with_reducible apply putP_ok | with_reducible apply putV_ok | with_reducible apply vaultV_ok | with_reducible apply holdH_ok | with_reducible apply freeH_ok | with_reducible apply moveP_ok | with_reducible apply wsub_any)))))))
    | ((with_reducible apply J.retE1 (freeH_ _ _ _ _ _)); exact rfl; exact rfl; (first | exact outs_au | fail); (focus ((refine ⟨?_, ?_, ?_, ?_⟩ <;> (first | exact ht.se0 hk | exact ht.se1 hk | exact ht.re0 hk | exact ht.re1 hk | (repeat' (first | with_reducible assumption | exact hs | exact ht.va | exact ht.fee | exact ht.am | with_reducible apply takeP_ok | with_reducible apply putP_ok | with_reducible apply putV_ok | with_reducible apply vaultV_ok | with_reducible apply holdH_ok | with_reducible apply freeH_ok | with_reducible apply moveP_ok | with_reducible apply wsub_any)))))))
    | ((with_reducible apply J.retER (needE_ _ _ _)); exact rfl; exact rfl; exact RH.of (by decide))
    | ((with_reducible apply J.retER (needP_ _ _ _)); exact rfl; exact rfl; exact RH.of (by decide))
    | ((with_reducible apply J.retER (need_ _ _)); exact rfl; exact rfl; exact RH.of (by decide))
    | refine J.one ?_
    | refine J.loudS ?_
    | (refine J.loudQ ?_; intro _ _)
    | (refine J.loudB ?_; intro _)
    | (with_reducible apply J.list)
    | ((with_reducible apply J.draw (id := 2) [0, 1, 3, 7, 0, 16, 48, 127, 255] (.p 0 (.p 1 (.p 2 (.q 3 (.p 4 (.p 5 (.q 6 (.p 7 (.x 8 .nil .none))))))))) (by kernel_rfl) ?_ (by kernel_rfl) ?_); (repeat (with_reducible first | exact PanicFree.body | exact PanicFree.np | exact PanicFree.lvS | apply PanicFree.then_ | apply PanicFree.blk)))
    | ((with_reducible apply J.draw (id := 7) [0, 1, 3, 0, 8, 24, 0, 64, 192, 0, 1023] (.p 0 (.p 1 (.p 2 (.p 3 (.p 4 (.q 5 (.p 6 (.p 7 (.q 8 (.q 9 (.x 10 .nil .none))))))))))) (by kernel_rfl) ?_ (by kernel_rfl) ?_); (repeat (with_reducible first | exact PanicFree.body | exact PanicFree.np | exact PanicFree.lvS | apply PanicFree.then_ | apply PanicFree.blk)))
    | ((with_reducible apply J.draw (id := 8) [0, 1, 3, 0, 8, 0, 32, 96, 0, 256, 1023] (.p 0 (.p 1 (.p 2 (.p 3 (.q 4 (.p 5 (.p 6 (.q 7 (.p 8 (.q 9 (.x 10 .nil .none))))))))))) (by kernel_rfl) ?_ (by kernel_rfl) ?_); (repeat (with_reducible first | exact PanicFree.body | exact PanicFree.np | exact PanicFree.lvS | apply PanicFree.then_ | apply PanicFree.blk)))
    | ((with_reducible apply J.draw (id := 10) [0, 1, 3, 0, 8, 24, 0, 64, 192, 0, 512, 1536, 4095] (.p 0 (.p 1 (.p 2 (.p 3 (.p 4 (.q 5 (.p 6 (.p 7 (.q 8 (.p 9 (.p 10 (.q 11 (.x 12 .nil .none))))))))))))) (by kernel_rfl) ?_ (by kernel_rfl) ?_); (repeat (with_reducible first | exact PanicFree.body | exact PanicFree.np | exact PanicFree.lvS | apply PanicFree.then_ | apply PanicFree.blk)))
    | ((with_reducible apply J.pl2); exact rfl; (first | exact Gd.none | ((with_reducible apply Gd.on); exact rfl; exact rfl)); (first | exact pend_au | fail))
    | ((with_reducible apply J.pl2_off); exact rfl; ((with_reducible apply Gd.off); exact rfl; exact rfl; exact rfl); exact rfl; (first | exact pend_au | fail))
    | ((with_reducible apply J.pl2_off_none); exact rfl; ((with_reducible apply Gd.off); exact rfl; exact rfl; exact rfl); (first | exact pend_au | fail))
    | ((with_reducible first | apply J.psplit0 | apply J.psplit1 | apply J.psplit2); exact rfl; exact rfl; exact rfl)
    | (with_reducible exact J.pl_none)
    | ((with_reducible apply J.gsplit); exact rfl; exact rfl)
    | ((with_reducible first | apply J.cond | apply JC.cond); exact rfl)
    | (intro h; exfalso; fail)
    | (intro h; (try simp only [decide_eq_true_eq, decide_eq_false_iff_not, beq_iff_eq, beq_eq_false_iff_ne, Bool.not_eq_true', Bool.not_eq_false', bne_iff_ne, bne_eq_false_iff_eq, ne_eq, ge_iff_le, gt_iff_lt] at h))
    | (with_reducible apply J.gave')
    | ((with_reducible apply J.kept'); rotate_left; (first | exact outs_au | fail))
  all_goals
    first
    | (have e := show fulX s L t = _ from (((((((if_pos (by assumption)).trans (if_pos (by assumption))).trans (if_pos (by assumption))).trans (if_pos (by assumption))).trans (if_pos (by assumption))).trans (bindE_ok (by assumption))).trans (bindE_ok (by assumption)))
       rw [e]
       (with_reducible apply J.endDo)
       · exact rfl
       · (first | exact outs_au | fail)
       · assumption
       · rfl
       · exact (stL_length _ _ _).symm
       · rfl)
    | (have e := show fulX s L t = _ from (((((((if_pos (by assumption)).trans (if_pos (by assumption))).trans (if_pos (by assumption))).trans (if_pos (by assumption))).trans (if_pos (by assumption))).trans (bindE_ok (by assumption))).trans (bindE_ok (by assumption)))
       rw [e]
       (with_reducible apply J.stopX); assumption; exact rfl)
    | (have e := show fulX s L t = _ from (((((((if_pos (by assumption)).trans (if_pos (by assumption))).trans (if_pos (by assumption))).trans (if_pos (by assumption))).trans (if_pos (by assumption))).trans (bindE_ok (by assumption))).trans (bindE_no (by assumption)))
       rw [e]
       (with_reducible apply J.stopX); assumption; exact rfl)
    | (have e := show fulX s L t = _ from ((((((if_pos (by assumption)).trans (if_pos (by assumption))).trans (if_pos (by assumption))).trans (if_pos (by assumption))).trans (if_pos (by assumption))).trans (bindE_no (by assumption)))
       rw [e]
       (with_reducible apply J.stopX); assumption; exact rfl)
    | (have e := show fulX s L t = _ from (((((if_pos (by assumption)).trans (if_pos (by assumption))).trans (if_pos (by assumption))).trans (if_pos (by assumption))).trans (if_neg (by assumption)))
       rw [e]
       (with_reducible apply J.endDo)
       · exact rfl
       · (first | exact outs_au | fail)
       · assumption
       · rfl
       · exact (stL_length _ _ _).symm
       · rfl)
    | (have e := show fulX s L t = _ from (((((if_pos (by assumption)).trans (if_pos (by assumption))).trans (if_pos (by assumption))).trans (if_pos (by assumption))).trans (if_neg (by assumption)))
       rw [e]
       (with_reducible apply J.stopX); assumption; exact rfl)
    | (have e := show fulX s L t = _ from (if_neg (by assumption))
       rw [e]
       (with_reducible apply J.stopX); assumption; exact rfl)
    | (have e := show fulX s L t = _ from ((if_pos (by assumption)).trans (if_neg (by assumption)))
       rw [e]
       (with_reducible apply J.stopX)
       · exact (by decide : (34 : Int) ≠ 0)
       · first | rfl | exact if_neg (by first | assumption | simp))
    | (have e := show fulX s L t = _ from (((if_pos (by assumption)).trans (if_pos (by assumption))).trans (if_neg (by assumption)))
       rw [e]
       (with_reducible apply J.stopX)
       · exact (by decide : (36 : Int) ≠ 0)
       · first | rfl | exact if_neg (by first | assumption | simp))
    | (have e := show fulX s L t = _ from ((((if_pos (by assumption)).trans (if_pos (by assumption))).trans (if_pos (by assumption))).trans (if_neg (by assumption)))
       rw [e]
       (with_reducible apply J.stopX)
       · exact (by decide : (35 : Int) ≠ 0)
       · first | rfl | exact if_neg (by first | assumption | simp))
    | (trace_state; fail)
theorem can_ (b : Nat) (s : SS) (ao : Option Addr) (cap : Nat) (L : List Lk) (t : Tx) (w : World) (hw : SOk s ∧ TOk t ∧ 4 ≤ t.ki ∧ L.length ≤ maxLen) : CSpec Tryz.prog 116 [.pointer (some ⟨b, 0, none⟩), .agg t.cells.toArray] [blk b (s.cells (.slice ao L.length cap)) 34, row (.slice ao L.length cap) 58 3 L.length (lcs L)] w (DoE b (canX s L t).2 (endL L t 3) (canX s L t).1) := by
  obtain ⟨hs, ht, hk, hm⟩ := hw
  refine spec_of Tryz.func116 rfl Tryz.ntmps116 rfl (l0 := [(0, .pointer (some ⟨b, 0, none⟩)), (1, .agg t.cells.toArray)]) rfl ?_
  intro fp
  repeat' first
    | (with_reducible first | apply J.then_panic | apply J.blk_panic | apply J.sco_panic)
    | ((with_reducible apply J.panic); exact rfl)
    | (intro h; simp only [ife30, ife31, ife32, ife33, ife34, ife35, ife36, ife37, ife38, ne_eq, Bool.false_eq_true, not_true_eq_false, reduceCtorEq, decide_eq_true_eq, decide_eq_false_iff_not, ge_iff_le, gt_iff_lt] at h)
    | (refine J.qv ?_; (with_reducible apply exq); focus (first
      | ((with_reducible apply Qv.fieldAdd); exact rfl)))
    | (refine J.qr ?_; (with_reducible apply exq); focus (first
      | ((with_reducible apply Qr.ldSide); exact rfl; (focus ((repeat (first | with_reducible exact In.here | with_reducible apply In.there)); done)))
      | ((with_reducible apply Qr.ldTime); exact rfl; (focus ((repeat (first | with_reducible exact In.here | with_reducible apply In.there)); done)))
      | ((with_reducible apply Qr.ldLv); exact rfl; (focus ((repeat (first | with_reducible exact In.here | with_reducible apply In.there)); done)))))
    | (refine J.qo ?_; refine ⟨?_, ?_⟩; focus (first
      | ((with_reducible apply Qr.ldSide); exact rfl; (focus ((repeat (first | with_reducible exact In.here | with_reducible apply In.there)); done)))
      | ((with_reducible apply Qr.ldTime); exact rfl; (focus ((repeat (first | with_reducible exact In.here | with_reducible apply In.there)); done)))
      | ((with_reducible apply Qr.ldLv); exact rfl; (focus ((repeat (first | with_reducible exact In.here | with_reducible apply In.there)); done)))))
    | ((with_reducible apply J.cellR); exact rfl; exact rfl; exact rfl; (repeat (first | with_reducible exact Upd.here | with_reducible apply Upd.there)); (rw [lcs_length]; have h7 := lockE_lt (by assumption); omega); exact lcs_set (lockE_lt (by assumption)) _)
    | ((with_reducible apply J.allocW); exact rfl; exact rfl; intro _)
    | ((with_reducible apply J.retER (lock_ _ _ _ _ _ L t)); exact rfl; exact rfl; exact RH.and (RH.and (RH.blk0 (by (repeat (first | with_reducible exact In.here | with_reducible apply In.there)))) (RH.row (by (repeat (first | with_reducible exact In.here | with_reducible apply In.there))))) (RH.of ⟨rfl, hm, ht.va⟩))
    | ((with_reducible apply J.givesR (signed_ t _)); exact rfl; exact rfl; exact RH.of ht.fee.1)
    | ((with_reducible apply J.givesP (Wide.sub _ _)); exact rfl; exact rfl; exact ⟨ht.va, ht.fee⟩)
    | ((with_reducible apply J.retE1 (takeP_ _ _ _ _ _ _)); exact rfl; exact rfl; (first | exact outs_au | fail); (focus ((refine ⟨?_, ?_⟩ <;> (repeat' (first | with_reducible assumption | exact hs | exact ht.va | exact ht.fee | exact ht.am | with_reducible apply takeP_ok | with_reducible apply putP_ok | with_reducible apply putV_ok | with_reducible apply vaultV_ok | with_reducible apply holdH_ok | with_reducible apply freeH_ok | with_reducible apply moveP_ok | with_reducible apply wsub_any))))))
    | ((with_reducible apply J.retE1 (putP_ _ _ _ _ _ _)); exact rfl; exact rfl; (first | exact outs_au | fail); (focus ((refine ⟨?_, ?_⟩ <;> (repeat' (first | with_reducible assumption | exact hs | exact ht.va | exact ht.fee | exact ht.am | with_reducible apply takeP_ok | with_reducible apply putP_ok | with_reducible apply putV_ok | with_reducible apply vaultV_ok | with_reducible apply holdH_ok | with_reducible apply freeH_ok | with_reducible apply moveP_ok | with_reducible apply wsub_any))))))
    | ((with_reducible apply J.retE1 (putV_ _ _ _ _ _ _)); exact rfl; exact rfl; (first | exact outs_au | fail); (focus ((refine ⟨?_, ?_⟩ <;> (repeat' (first | with_reducible assumption | exact hs | exact ht.va | exact ht.fee | exact ht.am | with_reducible apply takeP_ok | with_reducible apply putP_ok | with_reducible apply putV_ok | with_reducible apply vaultV_ok | with_reducible apply holdH_ok | with_reducible apply freeH_ok | with_reducible apply moveP_ok | with_reducible apply wsub_any))))))
    | ((with_reducible apply J.retE1 (vaultV_ _ _ _ _ _ _)); exact rfl; exact rfl; (first | exact outs_au | fail); (focus ((refine ⟨?_, ?_⟩ <;> (repeat' (first | with_reducible assumption | exact hs | exact ht.va | exact ht.fee | exact ht.am | with_reducible apply takeP_ok | with_reducible apply putP_ok | with_reducible apply putV_ok | with_reducible apply vaultV_ok | with_reducible apply holdH_ok | with_reducible apply freeH_ok | with_reducible apply moveP_ok | with_reducible apply wsub_any))))))
    | ((with_reducible apply J.retE1 (holdH_ _ _ _ _ _)); exact rfl; exact rfl; (first | exact outs_au | fail); (focus ((refine ⟨?_, ?_, ?_, ?_⟩ <;> (first | exact ht.se0 hk | exact ht.se1 hk | exact ht.re0 hk | exact ht.re1 hk | (repeat' (first | with_reducible assumption | exact hs | exact ht.va | exact ht.fee | exact ht.am | with_reducible apply takeP_ok | with_reducible apply putP_ok | with_reducible apply putV_ok | with_reducible apply vaultV_ok | with_reducible apply holdH_ok | with_reducible apply freeH_ok | with_reducible apply moveP_ok | with_reducible apply wsub_any)))))))
    | ((with_reducible apply J.retE1 (freeH_ _ _ _ _ _)); exact rfl; exact rfl; (first | exact outs_au | fail); (focus ((refine ⟨?_, ?_, ?_, ?_⟩ <;> (first | exact ht.se0 hk | exact ht.se1 hk | exact ht.re0 hk | exact ht.re1 hk | (repeat' (first | with_reducible assumption | exact hs | exact ht.va | exact ht.fee | exact ht.am | with_reducible apply takeP_ok | with_reducible apply putP_ok | with_reducible apply putV_ok | with_reducible apply vaultV_ok | with_reducible apply holdH_ok | with_reducible apply freeH_ok | with_reducible apply moveP_ok | with_reducible apply wsub_any)))))))
    | ((with_reducible apply J.retER (needE_ _ _ _)); exact rfl; exact rfl; exact RH.of (by decide))
    | ((with_reducible apply J.retER (needP_ _ _ _)); exact rfl; exact rfl; exact RH.of (by decide))
    | ((with_reducible apply J.retER (need_ _ _)); exact rfl; exact rfl; exact RH.of (by decide))
    | refine J.one ?_
    | refine J.loudS ?_
    | (refine J.loudQ ?_; intro _ _)
    | (refine J.loudB ?_; intro _)
    | (with_reducible apply J.list)
    | ((with_reducible apply J.draw (id := 2) [0, 1, 3, 7, 0, 16, 48, 127, 255] (.p 0 (.p 1 (.p 2 (.q 3 (.p 4 (.p 5 (.q 6 (.p 7 (.p 8 .nil))))))))) (by kernel_rfl) ?_ (by kernel_rfl) ?_); (repeat (with_reducible first | exact PanicFree.body | exact PanicFree.np | exact PanicFree.lvS | apply PanicFree.then_ | apply PanicFree.blk)))
    | ((with_reducible apply J.draw (id := 5) [0, 1, 3, 0, 8, 24, 0, 64, 192, 0, 512, 1536, 4095] (.p 0 (.p 1 (.p 2 (.p 3 (.p 4 (.q 5 (.p 6 (.p 7 (.q 8 (.p 9 (.p 10 (.q 11 (.x 12 .nil .none))))))))))))) (by kernel_rfl) ?_ (by kernel_rfl) ?_); (repeat (with_reducible first | exact PanicFree.body | exact PanicFree.np | exact PanicFree.lvS | apply PanicFree.then_ | apply PanicFree.blk)))
    | ((with_reducible apply J.draw (id := 7) [0, 1, 3, 0, 8, 24, 0, 64, 192, 0, 512, 1536, 4095] (.p 0 (.p 1 (.p 2 (.p 3 (.p 4 (.q 5 (.p 6 (.p 7 (.q 8 (.p 9 (.p 10 (.q 11 (.x 12 .nil .none))))))))))))) (by kernel_rfl) ?_ (by kernel_rfl) ?_); (repeat (with_reducible first | exact PanicFree.body | exact PanicFree.np | exact PanicFree.lvS | apply PanicFree.then_ | apply PanicFree.blk)))
    | ((with_reducible apply J.pl2); exact rfl; (first | exact Gd.none | ((with_reducible apply Gd.on); exact rfl; exact rfl)); (first | exact pend_au | fail))
    | ((with_reducible apply J.pl2_off); exact rfl; ((with_reducible apply Gd.off); exact rfl; exact rfl; exact rfl); exact rfl; (first | exact pend_au | fail))
    | ((with_reducible apply J.pl2_off_none); exact rfl; ((with_reducible apply Gd.off); exact rfl; exact rfl; exact rfl); (first | exact pend_au | fail))
    | ((with_reducible first | apply J.psplit0 | apply J.psplit1 | apply J.psplit2); exact rfl; exact rfl; exact rfl)
    | (with_reducible exact J.pl_none)
    | ((with_reducible apply J.gsplit); exact rfl; exact rfl)
    | ((with_reducible first | apply J.cond | apply JC.cond); exact rfl)
    | (intro h; exfalso; fail)
    | (intro h; (try simp only [decide_eq_true_eq, decide_eq_false_iff_not, beq_iff_eq, beq_eq_false_iff_ne, Bool.not_eq_true', Bool.not_eq_false', bne_iff_ne, bne_eq_false_iff_eq, ne_eq, ge_iff_le, gt_iff_lt] at h))
    | (with_reducible apply J.gave')
    | ((with_reducible apply J.kept'); rotate_left; (first | exact outs_au | fail))
  all_goals
    first
    | (have e := show canX s L t = _ from (((if_pos (by assumption)).trans (if_pos (by assumption))).trans (if_pos (.inl (by assumption))))
       rw [e]
       (with_reducible apply J.endDo)
       · exact rfl
       · (first | exact outs_au | fail)
       · assumption
       · rfl
       · exact (stL_length _ _ _).symm
       · rfl)
    | (have e := show canX s L t = _ from (((if_pos (by assumption)).trans (if_pos (by assumption))).trans (if_pos (.inl (by assumption))))
       rw [e]
       (with_reducible apply J.stopX); assumption; exact rfl)
    | (have e := show canX s L t = _ from ((((if_pos (by assumption)).trans (if_neg (by assumption))).trans (if_pos (.inl (by assumption)))).trans (bindE_ok (by assumption)))
       rw [e]
       (with_reducible apply J.endDo)
       · exact rfl
       · (first | exact outs_au | fail)
       · assumption
       · rfl
       · exact (stL_length _ _ _).symm
       · rfl)
    | (have e := show canX s L t = _ from ((((if_pos (by assumption)).trans (if_neg (by assumption))).trans (if_pos (.inl (by assumption)))).trans (bindE_ok (by assumption)))
       rw [e]
       (with_reducible apply J.stopX); assumption; exact rfl)
    | (have e := show canX s L t = _ from ((((if_pos (by assumption)).trans (if_neg (by assumption))).trans (if_pos (.inl (by assumption)))).trans (bindE_no (by assumption)))
       rw [e]
       (with_reducible apply J.stopX); assumption; exact rfl)
    | (have e := show canX s L t = _ from (((if_pos (by assumption)).trans (if_pos (by assumption))).trans (if_pos (.inr (by assumption))))
       rw [e]
       (with_reducible apply J.endDo)
       · exact rfl
       · (first | exact outs_au | fail)
       · assumption
       · rfl
       · exact (stL_length _ _ _).symm
       · rfl)
    | (have e := show canX s L t = _ from (((if_pos (by assumption)).trans (if_pos (by assumption))).trans (if_pos (.inr (by assumption))))
       rw [e]
       (with_reducible apply J.stopX); assumption; exact rfl)
    | (have e := show canX s L t = _ from ((((if_pos (by assumption)).trans (if_neg (by assumption))).trans (if_pos (.inr (by assumption)))).trans (bindE_ok (by assumption)))
       rw [e]
       (with_reducible apply J.endDo)
       · exact rfl
       · (first | exact outs_au | fail)
       · assumption
       · rfl
       · exact (stL_length _ _ _).symm
       · rfl)
    | (have e := show canX s L t = _ from ((((if_pos (by assumption)).trans (if_neg (by assumption))).trans (if_pos (.inr (by assumption)))).trans (bindE_ok (by assumption)))
       rw [e]
       (with_reducible apply J.stopX); assumption; exact rfl)
    | (have e := show canX s L t = _ from ((((if_pos (by assumption)).trans (if_neg (by assumption))).trans (if_pos (.inr (by assumption)))).trans (bindE_no (by assumption)))
       rw [e]
       (with_reducible apply J.stopX); assumption; exact rfl)
    | (have e := show canX s L t = _ from (if_neg (by assumption))
       rw [e]
       (with_reducible apply J.stopX); assumption; exact rfl)
    | (have e := show canX s L t = _ from (((if_pos (by assumption)).trans (if_pos (by assumption))).trans (if_neg (by simp [*])))
       rw [e]
       (with_reducible apply J.stopX)
       · exact (by decide : (35 : Int) ≠ 0)
       · first | rfl | exact if_neg (by first | assumption | simp))
    | (have e := show canX s L t = _ from (((if_pos (by assumption)).trans (if_neg (by assumption))).trans (if_neg (by simp [*])))
       rw [e]
       (with_reducible apply J.stopX)
       · exact (by decide : (37 : Int) ≠ 0)
       · first | rfl | exact if_neg (by first | assumption | simp))
    | (trace_state; fail)
end Go.Proofs.YtljbedladifgmaaGreat.Ful
namespace Go.Proofs.YtljbedladifgmaaGreat.Doo
open Go Go.RowKit Eng
set_option linter.unusedVariables false
set_option maxRecDepth 100000
set_option linter.unusedSimpArgs false
open Wide Purse Tx Sha Ss Esc Vau Lck Do Prep Ful Deal Mss Ots Hash Bytes
set_option maxHeartbeats 1000000
noncomputable def doX (s : SS) (L : List Lk) (t : Tx) : Int × SS :=
  if t.ki = 1 then moveP s t.fr t.to t.at_ t.am else if t.ki = 2 then storeX s t else if t.ki = 3 then drawX s t else if t.ki = 4 then prepX s L t else if t.ki = 5 then fulX s L t else if t.ki = 6 then canX s L t else (0, s)
noncomputable def doL (L : List Lk) (t : Tx) : List Lk := if t.ki = 4 then prepL L t else if t.ki = 5 then endL L t 2 else if t.ki = 6 then endL L t 3 else L
section
variable {P : Program} {c : Cx} {l : TL} {H : List Asrt} {Q : Exit → Act → World → Prop} {X : Act → World → Prop}
variable {ty : TypeId} {pos : String} {af : Array Edge} {d : Nat} {v : Value} {dst : Option Tmp} {mm : Nat}
theorem J.doE {f b : Nat} [i : Eng.Enters P f] {xs : List Operand} {ts : Array TypeId} {vs : List Value} {H1 R : List Asrt} {s : SS} {L : List Lk} {err : Int} {p : Prop} (hS : ∀ w, p → CSpec P f vs H1 w (DoE b s L err)) (hd : Nat.blt d c.n = true) (hx : evs l xs = some vs) (ho : Outs H1 H R) (hp : p)
    (K : err = 0 → ∀ q : Option Addr × Nat, L.length ≤ q.2 → J c ((d, .tuple #[]) :: l) (blk b (s.cells (.slice q.1 L.length q.2)) 34 :: row (.slice q.1 L.length q.2) 58 3 L.length (lcs L) :: R) X) (K2 : err ≠ 0 → J c l R (Q (.panic (mustCh 139 err)))) : J c l H (OW P Q ⟨some d, .call ⟨.value (.func f), xs.toArray, ts⟩, ty, pos, af, none⟩ X) :=
  J.retX (pre := fun _ => p) hS hd hx ho (RH.of hp) (fun h v H3 hR => by
    obtain ⟨q, hq, h1, h2⟩ := hR
    cases h1; subst h2
    exact K h q hq) K2
end
theorem doL_4 {L : List Lk} {t : Tx} (h : t.ki = 4) : doL L t = prepL L t := if_pos h
theorem doL_5 {L : List Lk} {t : Tx} (h : t.ki = 5) : doL L t = endL L t 2 := (if_neg (by omega)).trans (if_pos h)
theorem doL_6 {L : List Lk} {t : Tx} (h : t.ki = 6) : doL L t = endL L t 3 := (if_neg (by omega)).trans ((if_neg (by omega)).trans (if_pos h))
theorem doL_0 {L : List Lk} {t : Tx} (h : ¬(t.ki = 4 ∨ t.ki = 5 ∨ t.ki = 6)) : doL L t = L := (if_neg (by omega)).trans ((if_neg (by omega)).trans (if_neg (by omega)))
theorem doX_1 {s : SS} {L : List Lk} {t : Tx} (h : t.ki = 1) : doX s L t = moveP s t.fr t.to t.at_ t.am := if_pos h
theorem doX_2 {s : SS} {L : List Lk} {t : Tx} (h : t.ki = 2) : doX s L t = storeX s t := (if_neg (by omega)).trans (if_pos h)
theorem doX_3 {s : SS} {L : List Lk} {t : Tx} (h : t.ki = 3) : doX s L t = drawX s t := (if_neg (by omega)).trans ((if_neg (by omega)).trans (if_pos h))
theorem doX_4 {s : SS} {L : List Lk} {t : Tx} (h : t.ki = 4) : doX s L t = prepX s L t := (if_neg (by omega)).trans ((if_neg (by omega)).trans ((if_neg (by omega)).trans (if_pos h)))
theorem doX_5 {s : SS} {L : List Lk} {t : Tx} (h : t.ki = 5) : doX s L t = fulX s L t := (if_neg (by omega)).trans ((if_neg (by omega)).trans ((if_neg (by omega)).trans ((if_neg (by omega)).trans (if_pos h))))
theorem doX_6 {s : SS} {L : List Lk} {t : Tx} (h : t.ki = 6) : doX s L t = canX s L t := (if_neg (by omega)).trans ((if_neg (by omega)).trans ((if_neg (by omega)).trans ((if_neg (by omega)).trans ((if_neg (by omega)).trans (if_pos h)))))
theorem doX_0 {s : SS} {L : List Lk} {t : Tx} (h : ¬(1 ≤ t.ki ∧ t.ki ≤ 6)) : doX s L t = (0, s) := (if_neg (by omega)).trans ((if_neg (by omega)).trans ((if_neg (by omega)).trans ((if_neg (by omega)).trans ((if_neg (by omega)).trans (if_neg (by omega))))))
theorem do_ (b : Nat) (s : SS) (ao : Option Addr) (cap : Nat) (L : List Lk) (t : Tx) (w : World) (hw : SOk s ∧ TOk t ∧ L.length + 1 ≤ maxLen ∧ (L.length + 1) * 40 ≤ 140737488355328) : CSpec Tryz.prog 84 [.pointer (some ⟨b, 0, none⟩), .agg t.cells.toArray] [blk b (s.cells (.slice ao L.length cap)) 34, row (.slice ao L.length cap) 58 3 L.length (lcs L)] w (DoE b (doX s L t).2 (doL L t) (doX s L t).1) := by
  obtain ⟨hs, ht, hm1, hb⟩ := hw
  refine spec_of Tryz.func84 rfl Tryz.ntmps84 rfl (l0 := [(0, .pointer (some ⟨b, 0, none⟩)), (1, .agg t.cells.toArray)]) rfl ?_
  intro fp
  repeat' first
    | (with_reducible first | apply J.then_panic | apply J.blk_panic | apply J.sco_panic)
    | ((with_reducible apply J.panic); exact rfl)
    | (intro _ _ _)
    | (intro h; simp only [ife30, ife31, ife32, ife33, ife34, ife35, ife36, ife37, ife38, ne_eq, Bool.false_eq_true, not_true_eq_false, reduceCtorEq, decide_eq_true_eq, decide_eq_false_iff_not, ge_iff_le, gt_iff_lt] at h)
    | (refine J.qr ?_; (with_reducible apply exq); focus (first
      | ((with_reducible apply Qr.loadFull); exact rfl; (repeat (first | with_reducible exact In.here | with_reducible apply In.there)); (exact wvs_length _ _))
      | ((with_reducible apply Qr.ldPu); exact rfl; (focus ((repeat (first | with_reducible exact In.here | with_reducible apply In.there)); done)))
      | ((with_reducible apply Qr.loadFull); exact rfl; (repeat (first | with_reducible exact In.here | with_reducible apply In.there)); exact rfl)))
    | (refine J.qo ?_; refine ⟨?_, ?_⟩; focus (first
      | ((with_reducible apply Qr.loadFull); exact rfl; (repeat (first | with_reducible exact In.here | with_reducible apply In.there)); (exact wvs_length _ _))
      | ((with_reducible apply Qr.ldPu); exact rfl; (focus ((repeat (first | with_reducible exact In.here | with_reducible apply In.there)); done)))
      | ((with_reducible apply Qr.loadFull); exact rfl; (repeat (first | with_reducible exact In.here | with_reducible apply In.there)); exact rfl)))
    | ((with_reducible apply J.storeFull); exact rfl; exact rfl; (repeat (first | with_reducible exact Upd.here | with_reducible apply Upd.there)); (exact wvs_length _ _); (focus (first | exact wvs_length _ _ | kernel_rfl)); (exact wvs_ones _ _))
    | ((with_reducible apply J.stPu); exact rfl; exact rfl; (repeat (first | with_reducible exact Upd.here | with_reducible apply Upd.there)))
    | ((with_reducible apply J.givesP (Purse.move _ _ _ _ _)); exact rfl; exact rfl; exact ⟨hs.pu, ht.am⟩)
    | ((with_reducible apply J.retER (check_ _)); exact rfl; exact rfl; exact RH.of trivial)
    | ((with_reducible apply J.retE1 (store_ _ _ _ _)); exact rfl; exact rfl; (first | exact outs_au | fail); (focus (exact ⟨hs, ht.am, ht.at0, ht.at1⟩)))
    | ((with_reducible apply J.retE1 (draw_ _ _ _ _)); exact rfl; exact rfl; (first | exact outs_au | fail); (focus (exact ⟨hs, ht.am, ht.at0, ht.at1⟩)))
    | ((with_reducible apply J.doE (prep_ _ _ _ _ L _)); exact rfl; exact rfl; (first | exact outs_au | fail); (focus (first | exact ⟨hs, ht, by omega, hm1, hb⟩ | exact ⟨hs, ht, by omega, by omega⟩)))
    | ((with_reducible apply J.doE (ful_ _ _ _ _ L _)); exact rfl; exact rfl; (first | exact outs_au | fail); (focus (first | exact ⟨hs, ht, by omega, hm1, hb⟩ | exact ⟨hs, ht, by omega, by omega⟩)))
    | ((with_reducible apply J.doE (can_ _ _ _ _ L _)); exact rfl; exact rfl; (first | exact outs_au | fail); (focus (first | exact ⟨hs, ht, by omega, hm1, hb⟩ | exact ⟨hs, ht, by omega, by omega⟩)))
    | refine J.one ?_
    | refine J.loudS ?_
    | (refine J.loudQ ?_; intro _ _)
    | (refine J.loudB ?_; intro _)
    | (with_reducible apply J.list)
    | ((with_reducible apply J.draw (id := 3) [0, 1, 3, 7, 0, 16, 0, 64, 192, 0, 512, 0, 2048, 8191, 16383, 32767, 32767, 0, 196607, 524287] (.p 0 (.p 1 (.p 2 (.q 3 (.p 4 (.q 5 (.p 6 (.p 7 (.q 8 (.p 9 (.q 10 (.p 11 (.q 12 (.x 13 (.p 14 (.p 15 (.p 16 (.x 17 (.x 18 (.p 19 .nil) .none) .none)))) (.x 17 (.x 13 (.p 14 (.p 15 (.p 16 (.x 18 (.p 19 .nil) .none)))) .none) .none))))))))))))))) (by kernel_rfl) ?_ (by kernel_rfl) ?_); (repeat (with_reducible first | exact PanicFree.body | exact PanicFree.np | exact PanicFree.lvS | apply PanicFree.then_ | apply PanicFree.blk)))
    | ((with_reducible apply J.pl2); exact rfl; (first | exact Gd.none | ((with_reducible apply Gd.on); exact rfl; exact rfl)); (first | exact pend_au | fail))
    | ((with_reducible apply J.pl2_off); exact rfl; ((with_reducible apply Gd.off); exact rfl; exact rfl; exact rfl); exact rfl; (first | exact pend_au | fail))
    | ((with_reducible apply J.pl2_off_none); exact rfl; ((with_reducible apply Gd.off); exact rfl; exact rfl; exact rfl); (first | exact pend_au | fail))
    | ((with_reducible first | apply J.psplit0 | apply J.psplit1 | apply J.psplit2); exact rfl; exact rfl; exact rfl)
    | (with_reducible exact J.pl_none)
    | ((with_reducible apply J.gsplit); exact rfl; exact rfl)
    | ((with_reducible first | apply J.cond | apply JC.cond); exact rfl)
    | (intro h; exfalso; fail)
    | (intro h; (try simp only [decide_eq_true_eq, decide_eq_false_iff_not, beq_iff_eq, beq_eq_false_iff_ne, Bool.not_eq_true', Bool.not_eq_false', bne_iff_ne, bne_eq_false_iff_eq, ne_eq, ge_iff_le, gt_iff_lt] at h))
    | (with_reducible apply J.gave')
    | ((with_reducible apply J.kept'); rotate_left; (first | exact outs_au | fail))
  all_goals
    first
    | (rw [doX_1 (by assumption), doL_0 (by first | assumption | omega)]
       (with_reducible apply J.endDo)
       · exact rfl
       · (first | exact outs_au | fail)
       · assumption
       · rfl
       · rfl
       · rfl)
    | (rw [doX_1 (by assumption), doL_0 (by first | assumption | omega)]
       (with_reducible apply J.stopX)
       · assumption
       · exact rfl)
    | (rw [doX_2 (by assumption), doL_0 (by first | assumption | omega)]
       (with_reducible apply J.endDo)
       · exact rfl
       · (first | exact outs_au | fail)
       · assumption
       · rfl
       · rfl
       · rfl)
    | (rw [doX_2 (by assumption), doL_0 (by first | assumption | omega)]
       (with_reducible apply J.stopX)
       · assumption
       · exact rfl)
    | (rw [doX_3 (by assumption), doL_0 (by first | assumption | omega)]
       (with_reducible apply J.endDo)
       · exact rfl
       · (first | exact outs_au | fail)
       · assumption
       · rfl
       · rfl
       · rfl)
    | (rw [doX_3 (by assumption), doL_0 (by first | assumption | omega)]
       (with_reducible apply J.stopX)
       · assumption
       · exact rfl)
    | (rw [doX_4 (by assumption), doL_4 (by first | assumption | omega)]
       (with_reducible apply J.endDo)
       · exact rfl
       · (first | exact outs_au | fail)
       · assumption
       · rfl
       · rfl
       · rfl)
    | (rw [doX_4 (by assumption), doL_4 (by first | assumption | omega)]
       (with_reducible apply J.stopX)
       · assumption
       · exact rfl)
    | (rw [doX_5 (by assumption), doL_5 (by first | assumption | omega)]
       (with_reducible apply J.endDo)
       · exact rfl
       · (first | exact outs_au | fail)
       · assumption
       · rfl
       · rfl
       · rfl)
    | (rw [doX_5 (by assumption), doL_5 (by first | assumption | omega)]
       (with_reducible apply J.stopX)
       · assumption
       · exact rfl)
    | (rw [doX_6 (by assumption), doL_6 (by first | assumption | omega)]
       (with_reducible apply J.endDo)
       · exact rfl
       · (first | exact outs_au | fail)
       · assumption
       · rfl
       · rfl
       · rfl)
    | (rw [doX_6 (by assumption), doL_6 (by first | assumption | omega)]
       (with_reducible apply J.stopX)
       · assumption
       · exact rfl)
    | (rw [doX_0 (by omega), doL_0 (by omega)]
       (with_reducible apply J.endDo)
       · exact rfl
       · (first | exact outs_au | fail)
       · rfl
       · rfl
       · rfl
       · rfl)
    | (trace_state; fail)
end Go.Proofs.YtljbedladifgmaaGreat.Doo
namespace Go.Proofs.YtljbedladifgmaaGreat.Eng
open Go Go.RowKit
set_option linter.unusedVariables false
set_option linter.unusedSimpArgs false
set_option linter.unusedSectionVars false
/-- The contract of a deferred call, of a frame in this mode. -/
def DSpec (P : Program) (f : Nat) (args : List Value) (u : FrameMode) (H1 : List Asrt) (w : World) (R : Ending → FrameMode → List Asrt → Prop) : Prop :=
  ∀ fp, Holds (hp w) H1 fp → fp.Nodup → (∀ i, i ∈ fp → i < w.heap.size) → CallsD P f args.toArray u w fun e u' w' => ∃ H3, R e u' H3 ∧ Sat w fp H3 w'
section
variable {P : Program}
theorem start_rel {args : List Value} {n : Nat} {l0 : TL} (hsz : Nat.ble args.length n = true) (hl : initTL 0 args = l0) : TRel n l0 { tmps := args.toArray ++ Array.replicate (n - args.toArray.size) undef, defers := [] } := by
  refine ⟨?_, ?_⟩
  · have : args.length ≤ n := Nat.le_of_ble_eq_true hsz
    simp; omega
  · intro d v hd
    rw [← hl] at hd
    obtain ⟨_, h5⟩ := initTL_get args 0 d v hd
    have hlt : d < args.length := by
      rcases Nat.lt_or_ge d args.length with hq | hq
      · exact hq
      · rw [Nat.sub_zero, List.getElem?_eq_none hq] at h5; cases h5
    rw [Array.getElem?_append_left (by simpa using hlt)]
    simpa using h5
variable {c : Cx} {l : TL} {H : List Asrt} {Q : Exit → Act → World → Prop} {X : Act → World → Prop}
variable {ty : TypeId} {pos : String} {af : Array Edge} {d : Nat} {v : Value} {dst : Option Tmp} {mm : Nat}
theorem J.deferV {f : Nat} {cs : List Value} {o : Nat} {ts : Array TypeId} (ho : ev l (.tmp o) = some (fnv f cs)) {w0 : World} {own : List Nat} {n : Nat} {ds : List Deferred} (K : J ⟨w0, own, n, ⟨.fn (.func f) cs.toArray, #[]⟩ :: ds⟩ l H X) : J ⟨w0, own, n, ds⟩ l H (OW P Q ⟨none, .defer ⟨.value (.tmp o), #[], ts⟩, ty, pos, af, none⟩ X) := J.mk fun a w s => by
  unfold OW Oper.wp
  have h : (execOp a.eval ⟨none, .defer ⟨.value (.tmp o), #[], ts⟩, ty, pos, af, none⟩).run P w = .ok (.defer ⟨.fn (.func f) cs.toArray, #[]⟩) w := by
    simp [execOp, resolve, s.1.ev ho, Deferred.ofValue]
  rw [h]
  exact K.out _ _ ⟨⟨s.1.size, s.1.get⟩, by show _ :: a.defers = _; rw [s.2.1], s.2.2⟩
/-- The end of a function that has deferred a call. -/
theorem J.leave {fn : Func} {f : Nat} [i : Enters P f] {cs : List Value} {rs : List ResultVar} {vs : List Value} {H1 H2 H3 : List Asrt} {r : Value} {R : Ending → World → Prop} {u : FrameMode} (hu : u ≠ .run) (hds : c.ds = [⟨.fn (.func f) cs.toArray, #[]⟩]) (hr : fn.results = rs.toArray) (ho : Outs H1 H H2)
    (hS : ∀ w, DSpec P f cs u H1 w fun e u' H => (∃ v, e = .returned v) ∧ settle u' = .returning ∧ H = H3)
    (hres : Res P c l (H3 ++ H2) rs vs) (hv : retv vs = r) (K : J c l (H3 ++ H2) (fun _ w => R (.returned r) w)) : J c l H (fun a w => Leaves P fn a.tmps R a.defers u w) := J.mk fun a w s => by
  rw [s.2.1, hds]
  obtain ⟨fp, hh, hn, hi, hf⟩ := s.2.2.perm ho.perm
  obtain ⟨f1, g1, rfl, h1, h2⟩ := hh.split
  have hc := hS w f1 h1 (List.nodup_append.1 hn).1 (fun i hi' => (hi i (List.mem_append_left _ hi')).1)
  refine leaves_cons (f := f) (args := cs.toArray) hu (by simp [invoke, i.run]) (hc.mono fun e u' w' ⟨H4, ⟨⟨v, he⟩, hs, hH⟩, h3⟩ => ?_)
  subst he hH
  have h4 := Sat.call hn hi hf h2 h3
  have s4 : St c l (H4 ++ H2) a w' := ⟨s.1, s.2.1, h4⟩
  show Leaves P fn a.tmps R [] (settle u') w'
  rw [hs]
  exact ⟨r, hv ▸ run_results hr hres s4, K.out a w' s4⟩
theorem J.leave_ret {fn : Func} {R : Ending → World → Prop} (K : J c l H (fun a w => Leaves P fn a.tmps R a.defers .returning w)) : J c l H (bodyPostD P fn R .ret) := K
theorem J.leave_panic {fn : Func} {R : Ending → World → Prop} {ch : List PanicEntry} (K : J c l H (fun a w => Leaves P fn a.tmps R a.defers (.panicking ch) w)) : J c l H (bodyPostD P fn R (.panic ch)) := K

/-! ### A deferred function that recovers first -/
theorem upon_mono2 {o : Oper} {a : Act} {K K' : Act → World → Prop} {Q Q' : Exit → Act → World → Prop} {r : Result Next} (h : ∀ a w, K a w → K' a w) (hq : ∀ e a w, Q e a w → Q' e a w) (hh : o.upon P a K Q r) : o.upon P a K' Q' r := by
  cases r with
  | ok n w' =>
    cases n <;> simp only [Oper.upon] at hh ⊢ <;>
      first
        | exact h _ _ hh
        | exact Calls.mono hh (fun e w'' he => by
            cases e with
            | returned v => exact h _ _ he
            | panicked ch => exact hq _ _ _ he
            | outgrown => obtain ⟨a0, w0, h0⟩ := he; exact ⟨a0, w0, hq _ _ _ h0⟩)
        | exact Rows.mono hh (fun _ _ he => h _ _ he)
  | halt x w' => cases x <;> simp only [Oper.upon] at hh ⊢ <;> first | exact hh | exact hq _ _ _ hh
theorem wpOpsS_list {ops : Array Oper} {cs : List Frame} {Q1 : Exit → Act → World → Prop} {Q : Exit → Act → List Frame → World → Prop} (hn : ¬ LetsOut Q1) (hq : ∀ e a w, Q1 e a w → Q e a cs w) : ∀ (l : List Oper) (k : Nat) (a : Act) (w : World), (∀ j, l[j]? = ops[k + j]?) → wpList P ops Q1 l a w → wpOpsS P ops Q (List.range' k l.length) a cs w
  | [], k, a, w, _, h => hq _ _ _ h
  | o :: l, k, a, w, hl, h => by
    have h0 : ops[k]? = some o := by simpa using (hl 0).symm
    have ih := wpOpsS_list (ops := ops) (cs := cs) hn hq l (k + 1)
    have hl' : ∀ j, l[j]? = ops[k + 1 + j]? := fun j => by have := hl (j + 1); simpa [Nat.add_assoc, Nat.add_comm 1 j] using this
    rw [List.length_cons, List.range'_succ]
    simp only [wpOpsS, h0]
    unfold wpList at h
    split
    · rename_i hw
      rw [if_pos hw] at h
      rcases h with h | ⟨_, h⟩
      · have h1 : o.upon P a (fun a' w' => wpOpsS P ops Q (List.range' (k + 1) l.length) a' cs w') (fun e a' w' => Q e a' cs w') ((execOp a.eval o).run P w) := upon_mono2 (fun a' w' hh => ih a' w' hl' hh) hq h
        split
        · rename_i w' hr
          rw [hr] at h1
          exact h1.elim
        · exact h1
      · exact (hn h).elim
    · rename_i hw
      rw [if_neg hw] at h
      exact ih _ _ hl' h
/-- What is found there, and how the frame goes on. -/
def found : FrameMode → Value × FrameMode
  | .panicking ({ v, recovered := false, goexit := false } :: older) => (v, .panicking ({ v, recovered := true } :: older))
  | u => (.nilIface, u)
theorem found_none {c₀ : Frame} {cs : List Frame} (h : recoverD (c₀ :: cs) = none) : found c₀.mode = (.nilIface, c₀.mode) := by
  unfold found
  split
  · rename_i v older he
    simp [recoverD, he] at h
  · rfl
theorem found_some {c₀ : Frame} {cs cs' : List Frame} {v : Value} (h : recoverD (c₀ :: cs) = some (v, cs')) : v = (found c₀.mode).1 ∧ cs' = { c₀ with mode := (found c₀.mode).2 } :: cs := by
  simp only [recoverD] at h
  split at h
  · rename_i x older hm
    simp only [Option.some.injEq, Prod.mk.injEq] at h
    obtain ⟨rfl, rfl⟩ := h
    simp [found, hm]
  · cases h
theorem dspec_of {f : Nat} {fn : Func} {args : List Value} {u : FrameMode} {H1 : List Asrt} {w : World} {R : Ending → FrameMode → List Asrt → Prop} {n id d : Nat} {l0 : TL} {os : List Oper} {rest : Code} {ts : Array TypeId} {ty : TypeId} {pos : String} {af : Array Edge} (hf : P.funcs[f]? = some fn)
    (hb : fn.body = some (.seq (.region id (⟨some d, .call ⟨.builtin .recover, #[], ts⟩, ty, pos, af, none⟩ :: os).toArray false) rest)) (hn : fn.ntmps = n) (hsz : Nat.ble args.length n = true) (hl : initTL 0 args = l0) (hd : Nat.blt d n = true) (ho : ∀ u' H, ¬ R .outgrown u' H)
    (K : ∀ fp, J ⟨w, fp, n, []⟩ ((d, (found u).1) :: l0) H1 (wpList P (⟨some d, .call ⟨.builtin .recover, #[], ts⟩, ty, pos, af, none⟩ :: os).toArray (Exit.then (rest.wp P (bodyPost P fn fun e w' => ∃ H3, R e (found u).2 H3 ∧ Sat w fp H3 w')) (bodyPost P fn fun e w' => ∃ H3, R e (found u).2 H3 ∧ Sat w fp H3 w')) os)) : DSpec P f args u H1 w R := by
  intro fp h1 h2 h3
  refine callsD_of_wpS hf hb fun c₀ cs hu => ?_
  refine wpS_seq (wpS_region ?_)
  have hT := start_rel (args := args) hsz hl
  rw [hn]
  have key : ∀ (cs' : List Frame) (e : Exit) (a : Act) (w' : World), cs' = { c₀ with mode := (found u).2 } :: cs → bodyPost P fn (fun e w' => ∃ H3, R e (found u).2 H3 ∧ Sat w fp H3 w') e a w' → bodyPostS P fn c₀ cs (fun e u' w' => ∃ H3, R e u' H3 ∧ Sat w fp H3 w') e a cs' w' := by
    rintro cs' e a w' rfl hb'
    cases e with
    | normal => exact ⟨hb'.1, _, rfl, hb'.2⟩
    | ret => exact ⟨hb'.1, _, rfl, hb'.2⟩
    | panic ch => exact ⟨hb'.1, _, rfl, hb'.2⟩
    | outgrown => exact ⟨_, hb'⟩
    | exit id => exact hb'
    | goto l => exact hb'
  rw [show List.range (⟨some d, .call ⟨.builtin .recover, #[], ts⟩, ty, pos, af, none⟩ :: os : List Oper).toArray.size = 0 :: List.range' 1 os.length by
    simp [List.range_eq_range', List.range'_succ]]
  simp only [wpOpsS]
  rw [show (⟨some d, .call ⟨.builtin .recover, #[], ts⟩, ty, pos, af, none⟩ :: os : List Oper).toArray[0]? = some ⟨some d, .call ⟨.builtin .recover, #[], ts⟩, ty, pos, af, none⟩ by simp]
  simp only
  rw [if_pos (by simp [Region.wanted])]
  have hrun : ∀ a : Act, (execOp a.eval ⟨some d, .call ⟨.builtin .recover, #[], ts⟩, ty, pos, af, none⟩).run P w = .ok .recover w := fun a => by
    simp [execOp, resolve, invoke]
    rfl
  rw [hrun]
  simp only
  have go : ∀ (v : Value) (cs' : List Frame), v = (found u).1 → cs' = { c₀ with mode := (found u).2 } :: cs →
      wpOpsS P (⟨some d, .call ⟨.builtin .recover, #[], ts⟩, ty, pos, af, none⟩ :: os).toArray (Exit.thenS (rest.wpS P (bodyPostS P fn c₀ cs fun e u' w' => ∃ H3, R e u' H3 ∧ Sat w fp H3 w')) (bodyPostS P fn c₀ cs fun e u' w' => ∃ H3, R e u' H3 ∧ Sat w fp H3 w')) (List.range' 1 os.length) (Act.put { tmps := args.toArray ++ Array.replicate (n - args.toArray.size) undef, defers := [] } (some d) v) cs' w := by
    rintro v cs' rfl rfl
    have hk := (K fp).out (Act.put { tmps := args.toArray ++ Array.replicate (n - args.toArray.size) undef, defers := [] } (some d) (found u).1) w ⟨hT.put hd, rfl, fp, h1, h2, fun i hi => ⟨h3 i hi, fun _ => hi⟩, Fr.refl _ _⟩
    refine wpOpsS_list (P := P) (Q1 := _) ?_ ?_ os 1 _ w (fun j => by simp [Nat.add_comm 1 j]) hk
    · rintro ⟨a, w', hx⟩
      obtain ⟨H3, hR, _⟩ := hx
      exact ho _ _ hR
    · intro e a w' hx
      cases e with
      | normal => exact wpS_of_wp (Code.wp_mono (fun e a w' hy => key _ e a w' rfl hy) hx)
      | exit id => exact key _ (.exit id) a w' rfl (by exact hx)
      | goto l => exact key _ (.goto l) a w' rfl (by exact hx)
      | ret => exact key _ .ret a w' rfl (by exact hx)
      | panic ch => exact key _ (.panic ch) a w' rfl (by exact hx)
      | outgrown => exact key _ .outgrown a w' rfl (by exact hx)
  cases hrec : recoverD (c₀ :: cs) with
  | none =>
    have h := found_none hrec
    rw [hu] at h
    exact go _ _ (by rw [h]) (by rw [h, ← hu])
  | some x =>
    obtain ⟨v, cs'⟩ := x
    obtain ⟨h5, h6⟩ := found_some hrec
    rw [hu] at h5 h6
    exact go v cs' h5 h6
theorem dspec_fd {f : Nat} {fn : Func} {args : List Value} {u : FrameMode} {H1 : List Asrt} {w : World} {R : Ending → FrameMode → List Asrt → Prop} {n id d : Nat} {l0 : TL} {os : List Oper} {rest : Code} {ts : Array TypeId} {ty : TypeId} {pos : String} {af : Array Edge} {vr : Value} {ur : FrameMode} (hfd : found u = (vr, ur)) (hf : P.funcs[f]? = some fn)
    (hb : fn.body = some (.seq (.region id (⟨some d, .call ⟨.builtin .recover, #[], ts⟩, ty, pos, af, none⟩ :: os).toArray false) rest)) (hn : fn.ntmps = n) (hsz : Nat.ble args.length n = true) (hl : initTL 0 args = l0) (hd : Nat.blt d n = true) (ho : ∀ u' H, ¬ R .outgrown u' H)
    (K : ∀ fp, J ⟨w, fp, n, []⟩ ((d, vr) :: l0) H1 (wpList P (⟨some d, .call ⟨.builtin .recover, #[], ts⟩, ty, pos, af, none⟩ :: os).toArray (Exit.then (rest.wp P (bodyPost P fn fun e w' => ∃ H3, R e ur H3 ∧ Sat w fp H3 w')) (bodyPost P fn fun e w' => ∃ H3, R e ur H3 ∧ Sat w fp H3 w')) os)) : DSpec P f args u H1 w R := by
  refine dspec_of hf hb hn hsz hl hd ho fun fp => ?_
  rw [hfd]
  exact K fp
/-- A function that owns nothing, and defers. -/
theorem spec_own0Df {f : Nat} {fn : Func} {code : Code} {args : List Value} {w : World} {R : Ending → List Asrt → Prop} {n : Nat} {l0 : TL} (hf : P.funcs[f]? = some fn) (hb : fn.body = some code) (hn : fn.ntmps = n) (hsz : Nat.ble args.length n = true) (hl : initTL 0 args = l0)
    (K : J ⟨w, [], n, []⟩ l0 [] (code.wp P (bodyPostD P fn fun e w' => ∃ H3, R e H3 ∧ Sat w [] H3 w'))) : CSpec P f args [] w R := by
  intro fp h1 h2 h3
  have e : fp = [] := h1
  subst e
  subst hn
  exact calls_of_wp_defers hf hb (K.out _ _ ⟨start_rel hsz hl, rfl, [], h1, h2, fun i hi => ⟨h3 i hi, fun _ => hi⟩, Fr.refl _ _⟩)
theorem J.leave0 {fn : Func} {f : Nat} [i : Enters P f] {cs : List Value} {rs : List ResultVar} {vs : List Value} {r : Value} {R : Ending → World → Prop} {u : FrameMode} (hu : u ≠ .run) (hds : c.ds = [⟨.fn (.func f) cs.toArray, #[]⟩]) (hr : fn.results = rs.toArray)
    (hS : ∀ w, DSpec P f cs u [] w fun e u' H => (∃ v, e = .returned v) ∧ settle u' = .returning ∧ H = [])
    (hres : Res P c l H rs vs) (hv : retv vs = r) (K : J c l H (fun _ w => R (.returned r) w)) : J c l H (fun a w => Leaves P fn a.tmps R a.defers u w) := J.leave hu hds hr .nil hS hres hv K
theorem J.leave3 {fn : Func} {f : Nat} [i : Enters P f] {cs : List Value} {rs : List ResultVar} {vs : List Value} {A B C A' B' C' : Asrt} {H2 : List Asrt} {r : Value} {R : Ending → World → Prop} {u : FrameMode} {p : Prop} (hS : p → ∀ w, DSpec P f cs u [A, B, C] w fun e u' H => (∃ v, e = .returned v) ∧ settle u' = .returning ∧ H = [A', B', C']) (hu : u ≠ .run) (hds : c.ds = [⟨.fn (.func f) cs.toArray, #[]⟩]) (hr : fn.results = rs.toArray) (ho : Outs [A, B, C] H H2) (hp : p)
    (hres : Res P c l (A' :: B' :: C' :: H2) rs vs) (hv : retv vs = r) (K : J c l (A' :: B' :: C' :: H2) (fun _ w => R (.returned r) w)) : J c l H (fun a w => Leaves P fn a.tmps R a.defers u w) := J.leave hu hds hr ho (hS hp) hres hv K
theorem Res.full {t T n b : Nat} {z C vs : List Value} {E : TypeId} {rs : List ResultVar} [i : Ty P T true n z] (h : TL.get l t = some (.pointer (some ⟨b, 0, none⟩))) (hm : In (blk b C E) H) (hn : C.length = n) (hr : Res P c l H rs vs) : Res P c l H (.cell t T :: rs) (.agg C.toArray :: vs) :=
  Res.cellN h hm (by rw [List.drop_zero, List.take_of_length_le (by omega)]) hn hr
theorem J.postX {S : List Asrt → Prop} {H3 H4 : List Asrt} (hR : S H3) (ho : Outs H3 H H4) : J c l H (fun _ w => ∃ H3, S H3 ∧ Sat c.w0 c.own H3 w) := J.mk fun a w s =>
  ⟨H3, hR, Sat.drops (H' := H4) ((s.2.2.perm ho.perm).perm List.perm_append_comm)⟩
/-! ### What an interface holds -/
theorem Qv.assertNil {S T f off n : Nat} {agg : Bool} {zv : Value} [i : FldT P S f off agg n] {x : Operand} (hi : (P.info? S).bind (·.zero) = some zv) (hx : ev l x = some .nilIface) : Qv P mm l (.typeAssert x T S true) (.tuple #[zv, .bool false]) := fun a w _ _ _ _ s => by
  obtain ⟨fs, y, h1, h2, _⟩ := run_field (P := P) (S := S) (f := f) w
  cases hu : P.info? S with
  | none => rw [hu] at hi; cases hi
  | some d =>
    rw [hu] at hi
    have hz : d.zero = some zv := hi
    have h3 : (zeroValue S).run P w = .ok zv w := by simp [zeroValue, typeInfo, hu, hz]
    simp [execOp, s.ev hx, Instr.typeAssert, run_und h1, h3]
theorem Qv.assertOk {S T f off n : Nat} {agg : Bool} [i : FldT P S f off agg n] {x : Operand} (hx : ev l x = some (.iface S v)) : Qv P mm l (.typeAssert x T S true) (.tuple #[v, .bool true]) := fun a w _ _ _ _ s => by
  obtain ⟨fs, y, h1, h2, _⟩ := run_field (P := P) (S := S) (f := f) w
  simp [execOp, s.ev hx, Instr.typeAssert, run_und h1]
end
end Go.Proofs.YtljbedladifgmaaGreat.Eng
namespace Go.Proofs.YtljbedladifgmaaGreat.Tri
open Go Go.RowKit Eng
set_option linter.unusedVariables false
set_option maxRecDepth 100000
set_option linter.unusedSimpArgs false
open Wide Purse Tx Sha Ss Esc Vau Lck Do Prep Ful Doo Deal Mss Ots Hash Bytes
set_option maxHeartbeats 1000000
theorem clone_lock (ao : Option Addr) (n cap : Nat) (C : List Value) (w : World) (hw : Rd w ao C ∧ C.length = n * 3 ∧ C.all (·.oneCell') = true ∧ n * 40 ≤ 140737488355328 ∧ n ≤ maxLen) : CSpec Tryz.prog 45 [.slice ao n cap] [] w (Fresh 58 3 n C []) := by
  obtain ⟨hr, hl, ho, hb, hm⟩ := hw
  refine spec_own0 Tryz.func45 rfl Tryz.ntmps45 rfl (l0 := [(0, .slice ao n cap)]) rfl ?_
  repeat' first
    | (refine J.qv ?_; (with_reducible apply exq); focus (first
      | ((with_reducible apply Qv.nilS); exact rfl)))
    | ((with_reducible apply J.buildRow0); exact rfl; intro _)
    | ((with_reducible apply J.appendR); exact rfl; exact rfl; (repeat (first | with_reducible exact Out.here | with_reducible apply Out.there)); exact rfl; exact RH.old hr; exact hl; exact ho; exact rfl; exact rfl; (first | decide | (simp only [maxLen]; omega) | omega); (first | decide | (simp only [maxLen]; omega) | omega); intro _ _)
    | refine J.one ?_
    | refine J.loudS ?_
    | (refine J.loudQ ?_; intro _ _)
    | (refine J.loudB ?_; intro _)
    | (with_reducible apply J.list)
    | ((with_reducible apply J.gsplit); exact rfl; exact rfl)
    | ((with_reducible first | apply J.cond | apply JC.cond); exact rfl)
    | (intro h; exfalso; fail)
    | (intro h; (try simp only [decide_eq_true_eq, decide_eq_false_iff_not, beq_iff_eq, beq_eq_false_iff_ne, Bool.not_eq_true', Bool.not_eq_false', bne_iff_ne, bne_eq_false_iff_eq, ne_eq, ge_iff_le, gt_iff_lt] at h))
    | (with_reducible apply J.gave')
    | ((with_reducible apply J.kept'); rotate_left; (first | exact outs_au | fail))
  all_goals
    first
    | (rw [Option.isNone_iff_eq_none] at h
       have e1 : C = [] := hr.1 h
       subst e1
       have e2 : n = 0 := by simp at hl; omega
       subst e2
       refine J.nilRow 58 3 ?_
       (with_reducible apply J.freshRow)
       (repeat (first | with_reducible exact Out.here | with_reducible apply Out.there))
       exact rfl
       exact rfl
       exact rfl)
    | ((with_reducible apply J.freshRow)
       (repeat (first | with_reducible exact Out.here | with_reducible apply Out.there))
       exact rfl
       omega
       exact List.nil_append _)
    | (trace_state; fail)
theorem SS.ones (s : SS) (ao : Option Addr) (n cap : Nat) : (s.cells (.slice ao n cap)).all (·.oneCell') = true := by
  simp only [SS.cells, List.all_append, wvs_ones, List.all_cons, List.all_nil]
  have h : (ncell s.no).all (·.oneCell') = true := tab_ones fun _ => rfl
  rw [h]
  rfl
theorem idle (bs bo be : Nat) (w : World) : DSpec Tryz.prog 83 [.pointer (some ⟨bs, 0, none⟩), .pointer (some ⟨bo, 0, none⟩), .pointer (some ⟨be, 0, none⟩)] .returning [] w (fun e u' H => (∃ v, e = .returned v) ∧ settle u' = .returning ∧ H = []) := by
  refine dspec_fd (vr := .nilIface) (ur := .returning) rfl Tryz.func83 rfl Tryz.ntmps83 rfl (l0 := [(0, .pointer (some ⟨bs, 0, none⟩)), (1, .pointer (some ⟨bo, 0, none⟩)), (2, .pointer (some ⟨be, 0, none⟩))]) rfl rfl (by rintro u H ⟨⟨v, h⟩, _⟩; cases h) ?_
  intro fp
  repeat' first
    | (refine J.qv ?_; (with_reducible apply exq); focus (first
      | ((with_reducible apply Qv.assertNil (f := 0) (zv := .agg #[.int .i64 0])); kernel_rfl; exact rfl)))
    | refine J.one ?_
    | refine J.loudS ?_
    | (refine J.loudQ ?_; intro _ _)
    | (refine J.loudB ?_; intro _)
    | (with_reducible apply J.list)
    | ((with_reducible apply J.draw (id := 2) [0, 0, 2, 1, 15] (.q 0 (.p 1 (.q 2 (.x 3 (.x 4 .nil .none) .none)))) (by kernel_rfl) ?_ (by kernel_rfl) ?_); (repeat (with_reducible first | exact PanicFree.body | exact PanicFree.np | exact PanicFree.lvS | apply PanicFree.then_ | apply PanicFree.blk)))
    | ((with_reducible apply J.pl2); exact rfl; (first | exact Gd.none | ((with_reducible apply Gd.on); exact rfl; exact rfl)); (first | exact pend_au | fail))
    | ((with_reducible apply J.pl2_off); exact rfl; ((with_reducible apply Gd.off); exact rfl; exact rfl; exact rfl); exact rfl; (first | exact pend_au | fail))
    | ((with_reducible apply J.pl2_off_none); exact rfl; ((with_reducible apply Gd.off); exact rfl; exact rfl; exact rfl); (first | exact pend_au | fail))
    | ((with_reducible first | apply J.psplit0 | apply J.psplit1 | apply J.psplit2); exact rfl; exact rfl; exact rfl)
    | (with_reducible exact J.pl_none)
    | ((with_reducible apply J.gsplit); exact rfl; exact rfl)
    | ((with_reducible first | apply J.cond | apply JC.cond); exact rfl)
    | (intro h; exfalso; (simp at h; done))
    | (intro h; (try simp only [decide_eq_true_eq, decide_eq_false_iff_not, beq_iff_eq, beq_eq_false_iff_ne, Bool.not_eq_true', Bool.not_eq_false', bne_iff_ne, bne_eq_false_iff_eq, ne_eq, ge_iff_le, gt_iff_lt] at h))
    | (with_reducible apply J.gave')
    | ((with_reducible apply J.kept'); rotate_left; (first | exact outs_au | fail))
  all_goals
    first
    | (apply J.postX (H3 := [])
       · exact ⟨⟨_, rfl⟩, rfl, rfl⟩
       · exact .nil)
    | (trace_state; fail)
theorem caught (bs bo be : Nat) (s : SS) (ao : Option Addr) (n cap : Nat) (Co : List Value) (e0 e1 : Int) (w : World) (hw : Co.length = 151) : DSpec Tryz.prog 83 [.pointer (some ⟨bs, 0, none⟩), .pointer (some ⟨bo, 0, none⟩), .pointer (some ⟨be, 0, none⟩)] (.panicking (mustCh 139 e1)) [blk bs (s.cells (.slice ao n cap)) 34, blk bo Co 34, blk be [.int .i64 e0] 42] w (fun e u' H => (∃ v, e = .returned v) ∧ settle u' = .returning ∧ H = [blk bs (s.cells (.slice ao n cap)) 34, blk bo (s.cells (.slice ao n cap)) 34, blk be [.int .i64 e1] 42]) := by
  have hC := hw
  refine dspec_fd (vr := (.iface 139 (.agg #[.int .i64 e1]))) (ur := (.panicking [{ v := .iface 139 (.agg #[.int .i64 e1]), recovered := true }])) rfl Tryz.func83 rfl Tryz.ntmps83 rfl (l0 := [(0, .pointer (some ⟨bs, 0, none⟩)), (1, .pointer (some ⟨bo, 0, none⟩)), (2, .pointer (some ⟨be, 0, none⟩))]) rfl rfl (by rintro u H ⟨⟨v, h⟩, _⟩; cases h) ?_
  intro fp
  repeat' first
    | (refine J.qv ?_; (with_reducible apply exq); focus (first
      | ((with_reducible apply Qv.assertOk (f := 0)); exact rfl)))
    | (refine J.qr ?_; (with_reducible apply exq); focus (first
      | ((with_reducible apply Qr.loadFull); exact rfl; (focus ((repeat (first | with_reducible exact In.here | with_reducible apply In.there)); done)); with_reducible exact SS.len _ _)))
    | (refine J.qo ?_; refine ⟨?_, ?_⟩; focus (first
      | ((with_reducible apply Qr.loadFull); exact rfl; (focus ((repeat (first | with_reducible exact In.here | with_reducible apply In.there)); done)); with_reducible exact SS.len _ _)))
    | ((with_reducible apply J.storeFull); exact rfl; exact rfl; (repeat (first | with_reducible exact Upd.here | with_reducible apply Upd.there)); (with_reducible exact SS.len _ _); (focus (first | (with_reducible exact SS.len _ _) | exact hC | kernel_rfl)); with_reducible exact SS.ones _ _ _ _)
    | refine J.one ?_
    | refine J.loudS ?_
    | (refine J.loudQ ?_; intro _ _)
    | (refine J.loudB ?_; intro _)
    | (with_reducible apply J.list)
    | ((with_reducible apply J.draw (id := 2) [0, 0, 2, 1, 15] (.q 0 (.p 1 (.q 2 (.x 3 (.x 4 .nil .none) .none)))) (by kernel_rfl) ?_ (by kernel_rfl) ?_); (repeat (with_reducible first | exact PanicFree.body | exact PanicFree.np | exact PanicFree.lvS | apply PanicFree.then_ | apply PanicFree.blk)))
    | ((with_reducible apply J.pl2); exact rfl; (first | exact Gd.none | ((with_reducible apply Gd.on); exact rfl; exact rfl)); (first | exact pend_au | fail))
    | ((with_reducible apply J.pl2_off); exact rfl; ((with_reducible apply Gd.off); exact rfl; exact rfl; exact rfl); exact rfl; (first | exact pend_au | fail))
    | ((with_reducible apply J.pl2_off_none); exact rfl; ((with_reducible apply Gd.off); exact rfl; exact rfl; exact rfl); (first | exact pend_au | fail))
    | ((with_reducible first | apply J.psplit0 | apply J.psplit1 | apply J.psplit2); exact rfl; exact rfl; exact rfl)
    | (with_reducible exact J.pl_none)
    | ((with_reducible apply J.gsplit); exact rfl; exact rfl)
    | ((with_reducible first | apply J.cond | apply JC.cond); exact rfl)
    | (intro h; exfalso; (simp at h; done))
    | (intro h; (try simp only [decide_eq_true_eq, decide_eq_false_iff_not, beq_iff_eq, beq_eq_false_iff_ne, Bool.not_eq_true', Bool.not_eq_false', bne_iff_ne, bne_eq_false_iff_eq, ne_eq, ge_iff_le, gt_iff_lt] at h))
    | (with_reducible apply J.gave')
    | ((with_reducible apply J.kept'); rotate_left; (first | exact outs_au | fail))
  all_goals
    first
    | (apply J.postX (H3 := [blk bs (s.cells (.slice ao n cap)) 34, blk bo (s.cells (.slice ao n cap)) 34, blk be [.int .i64 e1] 42])
       · exact ⟨⟨_, rfl⟩, rfl, rfl⟩
       · (first | exact outs_au | fail))
    | (trace_state; fail)
/-- What is tried: it is done, or nothing is. -/
def TryR (s : SS) (lv : Value) (L : List Lk) (t : Tx) : Ending → List Asrt → Prop := fun e H =>
  ((doX s L t).1 = 0 ∧ ∃ q : Option Addr × Nat, (doL L t).length ≤ q.2 ∧ e = .returned (.tuple #[.agg ((doX s L t).2.cells (.slice q.1 (doL L t).length q.2)).toArray, .int .i64 0]) ∧ H = [row (.slice q.1 (doL L t).length q.2) 58 3 (doL L t).length (lcs (doL L t))])
  ∨ ((doX s L t).1 ≠ 0 ∧ e = .returned (.tuple #[.agg (s.cells lv).toArray, .int .i64 (doX s L t).1]) ∧ H = [])
theorem try_ (s : SS) (ao : Option Addr) (cap : Nat) (L : List Lk) (t : Tx) (w : World) (hw : Rd w ao (lcs L) ∧ SOk s ∧ TOk t ∧ L.length + 1 ≤ maxLen ∧ (L.length + 1) * 40 ≤ 140737488355328) : CSpec Tryz.prog 49 [.agg (s.cells (.slice ao L.length cap)).toArray, .agg t.cells.toArray] [] w (TryR s (.slice ao L.length cap) L t) := by
  obtain ⟨hr, hs, ht, hm1, hb⟩ := hw
  refine spec_own0Df Tryz.func49 rfl Tryz.ntmps49 rfl (l0 := [(0, .agg (s.cells (.slice ao L.length cap)).toArray), (1, .agg t.cells.toArray)]) rfl ?_
  repeat' first
    | (with_reducible first | apply J.then_panic | apply J.blk_panic | apply J.sco_panic)
    | (intro _ _ _)
    | (refine J.qr ?_; (with_reducible apply exq); focus (first
      | ((with_reducible apply Qr.ldLv); exact rfl; (focus ((repeat (first | with_reducible exact In.here | with_reducible apply In.there)); done)))
      | ((with_reducible apply Qr.loadFull); exact rfl; (focus ((repeat (first | with_reducible exact In.here | with_reducible apply In.there)); done)); (first | (with_reducible exact SS.len _ _) | exact rfl))))
    | ((with_reducible apply J.deferV); exact rfl)
    | ((with_reducible apply J.stLv); exact rfl; exact rfl; (repeat (first | with_reducible exact Upd.here | with_reducible apply Upd.there)))
    | ((with_reducible apply J.storeFull); exact rfl; exact rfl; (repeat (first | with_reducible exact Upd.here | with_reducible apply Upd.there)); (with_reducible exact SS.len _ _); (focus (first | (with_reducible exact SS.len _ _) | kernel_rfl)); with_reducible exact SS.ones _ _ _ _)
    | ((with_reducible apply J.freshR (clone_lock _ _ _ (lcs L))); exact rfl; exact rfl; (exact RH.and (RH.old hr) (RH.of ⟨lcs_length L, lcs_ones L, by omega, by omega⟩)); intro _ _)
    | ((with_reducible apply J.doE (do_ _ _ _ _ L _)); exact rfl; exact rfl; (first | exact outs_au | fail); (focus (exact ⟨hs, ht, hm1, hb⟩)))
    | refine J.one ?_
    | refine J.loudS ?_
    | (refine J.loudQ ?_; intro _ _)
    | (refine J.loudB ?_; intro _)
    | (with_reducible apply J.list)
    | ((with_reducible apply J.gsplit); exact rfl; exact rfl)
    | ((with_reducible first | apply J.cond | apply JC.cond); exact rfl)
    | (intro h; exfalso; fail)
    | (intro h; (try simp only [decide_eq_true_eq, decide_eq_false_iff_not, beq_iff_eq, beq_eq_false_iff_ne, Bool.not_eq_true', Bool.not_eq_false', bne_iff_ne, bne_eq_false_iff_eq, ne_eq, ge_iff_le, gt_iff_lt] at h))
    | (with_reducible apply J.gave')
    | ((with_reducible apply J.kept'); rotate_left; (first | exact outs_au | fail))
  all_goals
    first
    | (with_reducible apply J.leave_ret
       apply J.leave0 (hS := idle _ _ _)
       · simp
       · exact rfl
       · exact rfl
       · (repeat (first | (with_reducible exact Res.nil) | ((with_reducible apply Res.full); exact rfl; (focus ((repeat (first | with_reducible exact In.here | with_reducible apply In.there)); done)); (with_reducible exact SS.len _ _)) | ((with_reducible apply Res.cell1); exact rfl; (repeat (first | with_reducible exact In.here | with_reducible apply In.there)); exact rfl)))
       · rfl
       · apply J.post
         · exact .inl ⟨by assumption, _, by assumption, rfl, rfl⟩
         · (first | exact outs_au | fail))
    | (with_reducible apply J.leave_panic
       apply J.leave3 (fun h w => caught _ _ _ s ao L.length cap _ _ _ w h)
       · simp
       · exact rfl
       · exact rfl
       · (first | exact outs_au | fail)
       · kernel_rfl
       · (repeat (first | (with_reducible exact Res.nil) | ((with_reducible apply Res.full); exact rfl; (focus ((repeat (first | with_reducible exact In.here | with_reducible apply In.there)); done)); (with_reducible exact SS.len _ _)) | ((with_reducible apply Res.cell1); exact rfl; (repeat (first | with_reducible exact In.here | with_reducible apply In.there)); exact rfl)))
       · rfl
       · apply J.post
         · exact .inr ⟨by assumption, rfl, rfl⟩
         · exact .nil)
    | (trace_state; fail)
end Go.Proofs.YtljbedladifgmaaGreat.Tri
namespace Go.Proofs.YtljbedladifgmaaGreat.Low
open Go Go.RowKit Eng
set_option linter.unusedVariables false
set_option maxRecDepth 100000
set_option linter.unusedSimpArgs false
open Wide Purse Tx Sha Ss Esc Vau Lck Do Prep Ful Doo Tri Deal Mss Ots Hash Bytes
set_option maxHeartbeats 1000000
/-- A state with its locks. -/
def StV (T : Nat) (s : SS) (L : List Lk) : Ending → List Asrt → Prop := fun e H => ∃ q : Option Addr × Nat, L.length ≤ q.2 ∧ e = .returned (.agg (s.cells (.slice q.1 L.length q.2)).toArray) ∧ H = [row (.slice q.1 L.length q.2) T 3 L.length (lcs L)]
theorem J.endSt {c : Cx} {l : TL} {H R : List Asrt} {s s' : SS} {L : List Lk} {n cap T : Nat} {ao : Option Addr} {C : List Value} {r : Value} (ho : Outs [row (.slice ao n cap) T 3 n C] H R) (hn : n = L.length) (hC : C = lcs L) (hr : r = .agg (s'.cells (.slice ao n cap)).toArray) (es : s' = s) : J c l H (fun _ w => ∃ H3, StV T s L (.returned r) H3 ∧ Sat c.w0 c.own H3 w) := by
  subst hn hC hr es
  refine J.mk fun a w st => ?_
  have hq : L.length ≤ cap := by
    have h1 := st.2.2.perm ho.perm
    exact (h1.rd_row .here).2.1
  exact (J.post (R := StV T s' L) ⟨(ao, cap), hq, rfl, rfl⟩ ho).out a w st
section
variable {P : Program} {c : Cx} {l : TL} {H : List Asrt} {Q : Exit → Act → World → Prop} {X : Act → World → Prop}
variable {ty : TypeId} {pos : String} {af : Array Edge} {d : Nat} {v : Value} {dst : Option Tmp} {mm : Nat}
theorem J.stV {f T : Nat} [i : Eng.Enters P f] {xs : List Operand} {ts : Array TypeId} {vs : List Value} {s : SS} {L : List Lk} {pre : World → Prop} (hS : ∀ w, pre w → CSpec P f vs [] w (StV T s L)) (hd : Nat.blt d c.n = true) (hx : evs l xs = some vs) (hp : RH c.w0 c.own H pre)
    (K : ∀ q : Option Addr × Nat, L.length ≤ q.2 → J c ((d, .agg (s.cells (.slice q.1 L.length q.2)).toArray) :: l) (row (.slice q.1 L.length q.2) T 3 L.length (lcs L) :: H) X) : J c l H (OW P Q ⟨some d, .call ⟨.value (.func f), xs.toArray, ts⟩, ty, pos, af, none⟩ X) :=
  J.callS hd hx .nil (fun w s => hS w (hp w s)) (fun v H3 ⟨q, hq, h1, h2⟩ => by
    cases h1; subst h2
    exact K q hq) (fun ch H3 ⟨q, _, h1, _⟩ => by cases h1) (fun H3 ⟨q, _, h1, _⟩ => by cases h1)
theorem SS.s0 (s : SS) (lv : Value) (x : Int) : splice (s.cells lv) 0 [.int .i64 x] = SS.cells { s with side := x } lv := rfl
theorem J.stSide {T : Nat} {z : List Value} [i : Ty P T false 1 z] {x y : Operand} {b : Nat} {s : SS} {lv : Value} {E : TypeId} {H' : List Asrt} {p : Int} (hx : ev l x = some (.pointer (some ⟨b, 0, none⟩))) (hy : ev l y = some (.int .i64 p)) (hu : Upd (blk b (s.cells lv) E) (blk b (SS.cells { s with side := p } lv) E) H H') (K : J c l H' X) : J c l H (OW P Q ⟨none, .store T x y, ty, pos, af, none⟩ X) := J.store1 (T := T) hx hy rfl hu (SS.s0 s lv p) (by rw [s.len]; omega) K
end
/-- Later. -/
def riseS (s : SS) (k : Int) : SS := { s with time := s.time + imin (imax k 0) (imax (1099511627776 - s.time) 0) }
theorem rise_b {s : SS} (h : SOk s) (k : Int) : 0 ≤ imin (imax k 0) (imax (1099511627776 - s.time) 0) ∧ imin (imax k 0) (imax (1099511627776 - s.time) 0) ≤ 1099511627776 - s.time := by
  have h0 := h.t0
  have h1 := h.t1
  unfold imin imax
  (repeat' split) <;> omega
theorem riseS_ok {s : SS} {k : Int} (h : SOk s) : SOk (riseS s k) := ⟨h.pu, h.va, h.he, h.bu, by have := h.t0; have := rise_b h k; show 0 ≤ s.time + _; omega, by have := h.t1; have := rise_b h k; show s.time + _ ≤ _; omega⟩
theorem rise_ (s : SS) (k : Int) (ao : Option Addr) (cap : Nat) (L : List Lk) (w : World) (hw : Rd w ao (lcs L) ∧ SOk s ∧ L.length ≤ maxLen ∧ L.length * 40 ≤ 140737488355328) : CSpec Tryz.prog 14 [.agg (s.cells (.slice ao L.length cap)).toArray, .int .i64 k] [] w (StV 58 (riseS s k) L) := by
  obtain ⟨hr, hs, hm1, hb⟩ := hw
  refine spec_own0 Tryz.func14 rfl Tryz.ntmps14 rfl (l0 := [(0, .agg (s.cells (.slice ao L.length cap)).toArray), (1, .int .i64 k)]) rfl ?_
  repeat' first
    | ((with_reducible apply J.ret); exact rfl; exact rfl; (repeat (first | (with_reducible exact Res.nil) | ((with_reducible apply Res.tmp); exact rfl) | ((with_reducible apply Res.full); exact rfl; (focus ((repeat (first | with_reducible exact In.here | with_reducible apply In.there)); done)); (with_reducible exact SS.len _ _)) | ((with_reducible apply Res.cell1); exact rfl; (repeat (first | with_reducible exact In.here | with_reducible apply In.there)); exact rfl))); exact rfl)
    | (with_reducible first | apply J.then_panic | apply J.blk_panic | apply J.sco_panic)
    | (refine J.qv ?_; (with_reducible apply exq); focus (first
      | ((with_reducible apply Qv.sub); exact rfl; exact rfl; exact wr64 (by have h7 := hs.t0; have h8 := hs.t1; have h6 := rise_b hs k; omega) (by have h7 := hs.t0; have h8 := hs.t1; have h6 := rise_b hs k; omega) rfl)
      | ((with_reducible apply Qv.add); exact rfl; exact rfl; exact wr64 (by have h7 := hs.t0; have h8 := hs.t1; have h6 := rise_b hs k; omega) (by have h7 := hs.t0; have h8 := hs.t1; have h6 := rise_b hs k; omega) rfl)))
    | (refine J.qr ?_; (with_reducible apply exq); focus (first
      | ((with_reducible apply Qr.ldLv); exact rfl; (focus ((repeat (first | with_reducible exact In.here | with_reducible apply In.there)); done)))
      | ((with_reducible apply Qr.ldPu); exact rfl; (focus ((repeat (first | with_reducible exact In.here | with_reducible apply In.there)); done)))
      | ((with_reducible apply Qr.ldBu); exact rfl; (focus ((repeat (first | with_reducible exact In.here | with_reducible apply In.there)); done)))
      | ((with_reducible apply Qr.ldTime); exact rfl; (focus ((repeat (first | with_reducible exact In.here | with_reducible apply In.there)); done)))
      | ((with_reducible apply Qr.ldSide); exact rfl; (focus ((repeat (first | with_reducible exact In.here | with_reducible apply In.there)); done)))
      | ((with_reducible apply Qr.loadFull); exact rfl; (focus ((repeat (first | with_reducible exact In.here | with_reducible apply In.there)); done)); (first | (with_reducible exact SS.len _ _) | exact rfl))))
    | ((with_reducible apply J.storeFull); exact rfl; exact rfl; (repeat (first | with_reducible exact Upd.here | with_reducible apply Upd.there)); (with_reducible exact SS.len _ _); (focus (first | (with_reducible exact SS.len _ _) | kernel_rfl)); with_reducible exact SS.ones _ _ _ _)
    | ((with_reducible apply J.stPu); exact rfl; exact rfl; (repeat (first | with_reducible exact Upd.here | with_reducible apply Upd.there)))
    | ((with_reducible apply J.stBu); exact rfl; exact rfl; (repeat (first | with_reducible exact Upd.here | with_reducible apply Upd.there)))
    | ((with_reducible apply J.stLv); exact rfl; exact rfl; (repeat (first | with_reducible exact Upd.here | with_reducible apply Upd.there)))
    | ((with_reducible apply J.stTime); exact rfl; exact rfl; (repeat (first | with_reducible exact Upd.here | with_reducible apply Upd.there)))
    | ((with_reducible apply J.stSide); exact rfl; exact rfl; (repeat (first | with_reducible exact Upd.here | with_reducible apply Upd.there)))
    | ((with_reducible apply J.freshR (clone_lock _ _ _ (lcs L))); exact rfl; exact rfl; (exact RH.and (RH.old hr) (RH.of ⟨lcs_length L, lcs_ones L, by omega, by omega⟩)); intro _ _)
    | refine J.one ?_
    | refine J.loudS ?_
    | (refine J.loudQ ?_; intro _ _)
    | (refine J.loudB ?_; intro _)
    | (with_reducible apply J.list)
    | ((with_reducible apply J.gsplit); exact rfl; exact rfl)
    | ((with_reducible first | apply J.cond | apply JC.cond); exact rfl)
    | (intro h; exfalso; (simp at h; done))
    | (intro h; (try simp only [decide_eq_true_eq, decide_eq_false_iff_not, beq_iff_eq, beq_eq_false_iff_ne, Bool.not_eq_true', Bool.not_eq_false', bne_iff_ne, bne_eq_false_iff_eq, ne_eq, ge_iff_le, gt_iff_lt] at h))
    | (with_reducible apply J.gave')
    | ((with_reducible apply J.kept'); rotate_left; (first | exact outs_au | fail))
  all_goals
    first
    | ((with_reducible apply J.endSt)
       · (first | exact outs_au | fail)
       · rfl
       · rfl
       · rfl
       · rfl)
    | (trace_state; fail)
end Go.Proofs.YtljbedladifgmaaGreat.Low
namespace Go.Proofs.YtljbedladifgmaaGreat.Gene
open Go Go.RowKit Eng
set_option linter.unusedVariables false
set_option maxRecDepth 100000
set_option linter.unusedSimpArgs false
open Wide Purse Tx Sha Ss Esc Vau Lck Do Prep Ful Doo Tri Low Deal Mss Ots Hash Bytes
set_option maxHeartbeats 1000000
theorem bf_cons {place : Nat → Option (Nat × Nat)} {C C' : List Value} {i off size : Nat} {v : Value} {rest : List (Nat × Value)} {r : Option (List Value)} (hp : place i = some (off, size)) (hl : v.cells.toList.length = size) (ho : off + size ≤ C.length) (hs : splice C off v.cells.toList = C') (h : bfill place C' rest = r) : bfill place C ((i, v) :: rest) = r := by
  subst hs
  simp only [bfill, hp]
  rw [if_pos ⟨hl, ho⟩]
  exact h
def zS : SS := ⟨0, 0, fun _ => 0, fun _ => 0, fun _ => 0, fun _ => 0, 0⟩
theorem SS.g4w (s : SS) (lv : Value) : ((s.cells lv).drop 130).take 8 = ncell s.no := by
  rw [s.e4 lv]
  exact take_mid s.a4 (ncell_length _)
theorem SS.s4w (s : SS) (lv : Value) (x : Nat → Int) : splice (s.cells lv) 130 (ncell x) = SS.cells { s with no := x } lv := by
  rw [s.e4 lv, SS.e4 { s with no := x } lv]
  exact splice_mid s.a4 (by rw [ncell_length, ncell_length])
theorem SS.s5w (s : SS) (lv : Value) (x : Nat → Int) : splice (s.cells lv) 138 (wvs x 2) = SS.cells { s with he := x } lv := by
  rw [s.e5 lv, SS.e5 { s with he := x } lv]
  exact splice_mid s.a5 (by simp [wvs_length])
/-- At first. -/
def genS (side time : Int) : SS := { zS with side := imin (imax side 0) 1, time := imin (imax time 0) 1099511627776, pu := fun _ => 1000 }
theorem bf_gen {pl : List (Nat × Nat)} {z : List Value} {a b : Int} {p : Nat → Int} (hz : z = zS.cells (.slice none 0 0)) (h0 : pl[0]? = some (0, 1)) (h1 : pl[1]? = some (1, 1)) (h2 : pl[2]? = some (2, 64)) : bfill (fun i => pl[i]?) z [(0, .int .i64 a), (1, .int .i64 b), (2, .agg (wvs p 16).toArray)] = some (SS.cells { zS with side := a, time := b, pu := p } (.slice none 0 0)) := by
  subst hz
  refine bf_cons (C' := SS.cells { zS with side := a } (.slice none 0 0)) h0 rfl (by rw [SS.len]; omega) (SS.s0 zS _ a) ?_
  refine bf_cons (C' := SS.cells { zS with side := a, time := b } (.slice none 0 0)) h1 rfl (by rw [SS.len]; omega) (SS.s1 _ _ b) ?_
  refine bf_cons (C' := SS.cells { zS with side := a, time := b, pu := p } (.slice none 0 0)) h2 (wvs_length _ _) (by rw [SS.len]; omega) (SS.s2 _ _ p) ?_
  rfl
theorem gen_ (side time : Int) (w : World) : CSpec Tryz.prog 12 [.int .i64 side, .int .i64 time] [] w (Gives (.agg ((genS side time).cells (.slice none 0 0)).toArray)) := by
  refine spec_own0 Tryz.func12 rfl Tryz.ntmps12 rfl (l0 := [(0, .int .i64 side), (1, .int .i64 time)]) rfl ?_
  repeat' first
    | ((with_reducible apply J.ret); exact rfl; exact rfl; (repeat (first | (with_reducible exact Res.nil) | ((with_reducible apply Res.tmp); exact rfl) | ((with_reducible apply Res.full); exact rfl; (focus ((repeat (first | with_reducible exact In.here | with_reducible apply In.there)); done)); (with_reducible exact SS.len _ _)) | ((with_reducible apply Res.cell1); exact rfl; (repeat (first | with_reducible exact In.here | with_reducible apply In.there)); exact rfl))); exact rfl)
    | (with_reducible first | apply J.then_panic | apply J.blk_panic | apply J.sco_panic)
    | (refine J.qv ?_; (with_reducible apply exq); focus (first
      | ((with_reducible apply Qv.buildS); exact rfl; (refine bf_gen ?_ rfl rfl rfl; kernel_rfl))))
    | (refine J.qr ?_; (with_reducible apply exq); focus (first
      | ((with_reducible apply Qr.ldLv); exact rfl; (focus ((repeat (first | with_reducible exact In.here | with_reducible apply In.there)); done)))
      | ((with_reducible apply Qr.ldPu); exact rfl; (focus ((repeat (first | with_reducible exact In.here | with_reducible apply In.there)); done)))
      | ((with_reducible apply Qr.ldBu); exact rfl; (focus ((repeat (first | with_reducible exact In.here | with_reducible apply In.there)); done)))
      | ((with_reducible apply Qr.ldTime); exact rfl; (focus ((repeat (first | with_reducible exact In.here | with_reducible apply In.there)); done)))
      | ((with_reducible apply Qr.ldSide); exact rfl; (focus ((repeat (first | with_reducible exact In.here | with_reducible apply In.there)); done)))
      | ((with_reducible apply Qr.loadFull); exact rfl; (focus ((repeat (first | with_reducible exact In.here | with_reducible apply In.there)); done)); (first | (with_reducible exact SS.len _ _) | exact rfl))))
    | ((with_reducible apply J.storeFull); exact rfl; exact rfl; (repeat (first | with_reducible exact Upd.here | with_reducible apply Upd.there)); (with_reducible exact SS.len _ _); (focus (first | (with_reducible exact SS.len _ _) | kernel_rfl)); with_reducible exact SS.ones _ _ _ _)
    | ((with_reducible apply J.stPu); exact rfl; exact rfl; (repeat (first | with_reducible exact Upd.here | with_reducible apply Upd.there)))
    | ((with_reducible apply J.stBu); exact rfl; exact rfl; (repeat (first | with_reducible exact Upd.here | with_reducible apply Upd.there)))
    | ((with_reducible apply J.stLv); exact rfl; exact rfl; (repeat (first | with_reducible exact Upd.here | with_reducible apply Upd.there)))
    | ((with_reducible apply J.stTime); exact rfl; exact rfl; (repeat (first | with_reducible exact Upd.here | with_reducible apply Upd.there)))
    | ((with_reducible apply J.stSide); exact rfl; exact rfl; (repeat (first | with_reducible exact Upd.here | with_reducible apply Upd.there)))
    | ((with_reducible apply J.givesP (even _)); exact rfl; exact rfl; (unfold Wo; omega))
    | refine J.one ?_
    | refine J.loudS ?_
    | (refine J.loudQ ?_; intro _ _)
    | (refine J.loudB ?_; intro _)
    | (with_reducible apply J.list)
    | ((with_reducible apply J.gsplit); exact rfl; exact rfl)
    | ((with_reducible first | apply J.cond | apply JC.cond); exact rfl)
    | (intro h; exfalso; (simp at h; done))
    | (intro h; (try simp only [decide_eq_true_eq, decide_eq_false_iff_not, beq_iff_eq, beq_eq_false_iff_ne, Bool.not_eq_true', Bool.not_eq_false', bne_iff_ne, bne_eq_false_iff_eq, ne_eq, ge_iff_le, gt_iff_lt] at h))
    | (with_reducible apply J.gave')
    | ((with_reducible apply J.kept'); rotate_left; (first | exact outs_au | fail))
  all_goals rfl
end Go.Proofs.YtljbedladifgmaaGreat.Gene
namespace Go.Proofs.YtljbedladifgmaaGreat.Pln
open Go Go.RowKit Eng
set_option linter.unusedVariables false
set_option maxRecDepth 100000
set_option linter.unusedSimpArgs false
open Wide Purse Tx Sha Ss Esc Vau Lck Do Prep Ful Doo Tri Low Gene Deal Mss Ots Hash Bytes
set_option maxHeartbeats 1000000
theorem SS.g2i (s : SS) (lv : Value) {i : Nat} (h : i < 16) : ((s.cells lv).drop (2 + i * 4)).take 4 = wv (s.pu i) := by
  have h0 := s.g2 lv
  have h2 : ((((s.cells lv).drop 2).take 64).drop (i * 4)).take 4 = ((s.cells lv).drop (2 + i * 4)).take 4 := by
    rw [List.drop_take, List.drop_drop, List.take_take]
    congr 1
    omega
  rw [← h2, h0]
  exact wvs_get (by omega) (by omega)
theorem SS.s2i (s : SS) (lv : Value) {i : Nat} (h : i < 16) (x : Int) : splice (s.cells lv) (2 + i * 4) (wv x) = SS.cells { s with pu := upd s.pu i x } lv := by
  have e := wvs_set (ns := s.pu) (x := x) (m := 16) (k := i) (off := i * 4) (by omega) (by omega)
  rw [s.e2 lv, SS.e2 { s with pu := upd s.pu i x } lv, splice_in s.a2 (by rw [wvs_length]; simp [wv]; omega), e]
theorem SS.g3i (s : SS) (lv : Value) {i : Nat} (h : i < 16) : ((s.cells lv).drop (66 + i * 4)).take 4 = wv (s.va i) := by
  have h0 := s.g3 lv
  have h2 : ((((s.cells lv).drop 66).take 64).drop (i * 4)).take 4 = ((s.cells lv).drop (66 + i * 4)).take 4 := by
    rw [List.drop_take, List.drop_drop, List.take_take]
    congr 1
    omega
  rw [← h2, h0]
  exact wvs_get (by omega) (by omega)
theorem SS.s3i (s : SS) (lv : Value) {i : Nat} (h : i < 16) (x : Int) : splice (s.cells lv) (66 + i * 4) (wv x) = SS.cells { s with va := upd s.va i x } lv := by
  have e := wvs_set (ns := s.va) (x := x) (m := 16) (k := i) (off := i * 4) (by omega) (by omega)
  rw [s.e3 lv, SS.e3 { s with va := upd s.va i x } lv, splice_in s.a3 (by rw [wvs_length]; simp [wv]; omega), e]
section
variable {P : Program} {c : Cx} {l : TL} {H : List Asrt} {Q : Exit → Act → World → Prop} {X : Act → World → Prop}
variable {ty : TypeId} {pos : String} {af : Array Edge} {d : Nat} {v : Value} {dst : Option Tmp} {mm : Nat}
theorem Qr.ldNoW {T : Nat} {z : List Value} [i : Ty P T true 8 z] {x : Operand} {b : Nat} {s : SS} {lv : Value} {E : TypeId} (hx : ev l x = some (.pointer (some ⟨b, 130, none⟩))) (hm : In (blk b (s.cells lv) E) H) : Qr P c l H (.load T x) (.agg (ncell s.no).toArray) := Qr.loadN hx hm (SS.g4w s lv) (ncell_length _)
theorem Qr.ldHeW {T : Nat} {z : List Value} [i : Ty P T true 8 z] {x : Operand} {b : Nat} {s : SS} {lv : Value} {E : TypeId} (hx : ev l x = some (.pointer (some ⟨b, 138, none⟩))) (hm : In (blk b (s.cells lv) E) H) : Qr P c l H (.load T x) (.agg (wvs s.he 2).toArray) := Qr.loadN hx hm (s.g5 lv) (wvs_length _ _)
theorem Qr.ldPuI {T : Nat} {z : List Value} [i : Ty P T true 4 z] {x : Operand} {b : Nat} {s : SS} {lv : Value} {E : TypeId} {o k : Nat} (hx : ev l x = some (.pointer (some ⟨b, o, none⟩))) (ho : o = 2 + k * 4) (hk : k < 16) (hm : In (blk b (s.cells lv) E) H) : Qr P c l H (.load T x) (.agg (wv (s.pu k)).toArray) := by
  subst ho
  exact Qr.loadN hx hm (SS.g2i s lv hk) (wv_length _)
theorem J.stPuI {T : Nat} {z : List Value} [i : Ty P T true 4 z] {x y : Operand} {b : Nat} {s : SS} {lv : Value} {E : TypeId} {H' : List Asrt} {o k : Nat} {p : Int} (hx : ev l x = some (.pointer (some ⟨b, o, none⟩))) (ho : o = 2 + k * 4) (hk : k < 16) (hy : ev l y = some (.agg (wv p).toArray)) (hu : Upd (blk b (s.cells lv) E) (blk b (SS.cells { s with pu := upd s.pu k p } lv) E) H H') (K : J c l H' X) : J c l H (OW P Q ⟨none, .store T x y, ty, pos, af, none⟩ X) := by
  subst ho
  exact J.storeN (T := T) hx hy hu (SS.s2i s lv hk p) (wv_length _) (by rw [s.len]; omega) rfl K
theorem Qr.ldVaI {T : Nat} {z : List Value} [i : Ty P T true 4 z] {x : Operand} {b : Nat} {s : SS} {lv : Value} {E : TypeId} {o k : Nat} (hx : ev l x = some (.pointer (some ⟨b, o, none⟩))) (ho : o = 66 + k * 4) (hk : k < 16) (hm : In (blk b (s.cells lv) E) H) : Qr P c l H (.load T x) (.agg (wv (s.va k)).toArray) := by
  subst ho
  exact Qr.loadN hx hm (SS.g3i s lv hk) (wv_length _)
theorem J.stVaI {T : Nat} {z : List Value} [i : Ty P T true 4 z] {x y : Operand} {b : Nat} {s : SS} {lv : Value} {E : TypeId} {H' : List Asrt} {o k : Nat} {p : Int} (hx : ev l x = some (.pointer (some ⟨b, o, none⟩))) (ho : o = 66 + k * 4) (hk : k < 16) (hy : ev l y = some (.agg (wv p).toArray)) (hu : Upd (blk b (s.cells lv) E) (blk b (SS.cells { s with va := upd s.va k p } lv) E) H H') (K : J c l H' X) : J c l H (OW P Q ⟨none, .store T x y, ty, pos, af, none⟩ X) := by
  subst ho
  exact J.storeN (T := T) hx hy hu (SS.s3i s lv hk p) (wv_length _) (by rw [s.len]; omega) rfl K
theorem Qv.idxO {T len E n : Nat} {agg : Bool} {z : List Value} [i : Ar P T len E] [t : Ty P E agg n z] {x y : Operand} {b o : Nat} {k : IntKind} {j : Int} (hx : ev l x = some (.pointer (some ⟨b, o, none⟩))) (hy : ev l y = some (.int k j)) (hj : 0 ≤ j ∧ j < (len : Int)) : Qv P mm l (.indexAddr T x y) (.pointer (some ⟨b, o + j.toNat * n, none⟩)) := Qv.indexArr hx hy hj rfl
end
/-- So far copied. -/
def plS (s : SS) (i : Nat) : SS := { s with pu := fun j => if j < i then s.pu j else 0, va := fun j => if j < i then s.va j else 0 }
theorem plS_0 (s : SS) : ({ zS with side := s.side, time := s.time, no := s.no, he := s.he, bu := s.bu } : SS) = plS s 0 := by simp [plS, zS]
theorem plS_s (s : SS) (i : Nat) : ({ plS s i with pu := upd (plS s i).pu i (s.pu i), va := upd (plS s i).va i (s.va i) } : SS) = plS s (i + 1) := by
  simp only [plS, SS.mk.injEq, true_and, and_true]
  constructor
  all_goals
    funext j
    simp only [upd]
    by_cases h : j = i
    · subst h; simp
    · have h2 : (j < i) = (j < i + 1) := propext (by omega)
      simp only [h, if_false, h2]
theorem plS_16 (s : SS) (lv : Value) : (plS s 16).cells lv = s.cells lv := by
  unfold SS.cells
  rw [show wvs (plS s 16).pu 16 = wvs s.pu 16 from wvs_same fun j hj => if_pos hj, show wvs (plS s 16).va 16 = wvs s.va 16 from wvs_same fun j hj => if_pos hj]
  rfl
theorem bf_pl {pl : List (Nat × Nat)} {z : List Value} (s : SS) (hz : z = zS.cells (.slice none 0 0)) (h0 : pl[0]? = some (0, 1)) (h1 : pl[1]? = some (1, 1)) (h4 : pl[4]? = some (130, 8)) (h5 : pl[5]? = some (138, 8)) (h6 : pl[6]? = some (146, 4)) : bfill (fun i => pl[i]?) z [(0, .int .i64 s.side), (1, .int .i64 s.time), (4, .agg (ncell s.no).toArray), (5, .agg (wvs s.he 2).toArray), (6, .agg (wv s.bu).toArray)] = some (SS.cells (plS s 0) (.slice none 0 0)) := by
  subst hz
  rw [← plS_0]
  refine bf_cons (C' := SS.cells { zS with side := s.side } (.slice none 0 0)) h0 rfl (by rw [SS.len]; omega) (SS.s0 zS _ _) ?_
  refine bf_cons (C' := SS.cells { zS with side := s.side, time := s.time } (.slice none 0 0)) h1 rfl (by rw [SS.len]; omega) (SS.s1 _ _ _) ?_
  refine bf_cons (C' := SS.cells { zS with side := s.side, time := s.time, no := s.no } (.slice none 0 0)) h4 (ncell_length _) (by rw [SS.len]; omega) (SS.s4w _ _ _) ?_
  refine bf_cons (C' := SS.cells { zS with side := s.side, time := s.time, no := s.no, he := s.he } (.slice none 0 0)) h5 (wvs_length _ _) (by rw [SS.len]; omega) (SS.s5w _ _ _) ?_
  refine bf_cons (C' := SS.cells { zS with side := s.side, time := s.time, no := s.no, he := s.he, bu := s.bu } (.slice none 0 0)) h6 (wv_length _) (by rw [SS.len]; omega) (SS.s6 _ _ _) ?_
  rfl
end Go.Proofs.YtljbedladifgmaaGreat.Pln
namespace Go.Proofs.YtljbedladifgmaaGreat.Plx
open Go Go.RowKit Eng
set_option linter.unusedVariables false
set_option maxRecDepth 100000
set_option linter.unusedSimpArgs false
open Wide Purse Tx Sha Ss Esc Vau Lck Do Prep Ful Doo Tri Low Gene Pln Deal Mss Ots Hash Bytes
set_option maxHeartbeats 1000000
theorem lcs_snoc {L : List Lk} {k : Nat} (h : k < L.length) : lcs (L.take k) ++ [str (L.getD k lk0).key, str (L.getD k lk0).dig, .int .i64 (L.getD k lk0).st] = lcs (L.take (k + 1)) := by
  rw [List.take_add_one, List.getElem?_eq_getElem h]
  unfold lcs
  rw [List.map_append, List.flatten_append]
  have e : L.getD k lk0 = L[k] := by simp [List.getD, List.getElem?_eq_getElem h]
  rw [e]
  rfl
theorem plain_ (s : SS) (ao : Option Addr) (cap : Nat) (L : List Lk) (w : World) (hw : Rd w ao (lcs L) ∧ L.length ≤ maxLen ∧ L.length * 40 ≤ 140737488355328) : CSpec Tryz.prog 13 [.agg (s.cells (.slice ao L.length cap)).toArray] [] w (StV 99 s L) := by
  obtain ⟨hr, hm1, hb⟩ := hw
  have hao : 0 < L.length → ao.isSome = true := fun h => hr.isSome (by
    intro e
    have h8 := lcs_length L
    rw [e] at h8
    simp at h8
    omega)
  refine spec_own0 Tryz.func13 rfl Tryz.ntmps13 rfl (l0 := [(0, .agg (s.cells (.slice ao L.length cap)).toArray)]) rfl ?_
  repeat' first
    | ((with_reducible apply J.ret); exact rfl; exact rfl; (repeat (first | (with_reducible exact Res.nil) | ((with_reducible apply Res.tmp); exact rfl) | ((with_reducible apply Res.full); exact rfl; (focus ((repeat (first | with_reducible exact In.here | with_reducible apply In.there)); done)); (with_reducible exact SS.len _ _)) | ((with_reducible apply Res.cell1); exact rfl; (repeat (first | with_reducible exact In.here | with_reducible apply In.there)); exact rfl))); exact rfl)
    | (with_reducible first | apply J.then_panic | apply J.blk_panic | apply J.sco_panic)
    | (refine J.qv ?_; (with_reducible apply exq); focus (first
      | ((with_reducible apply Qv.buildS); exact rfl; (refine bf_pl s ?_ rfl rfl rfl rfl rfl; kernel_rfl))
      | ((with_reducible apply Qv.idxO); exact rfl; exact rfl; (constructor <;> omega))))
    | (refine J.qr ?_; (with_reducible apply exq); focus (first
      | ((with_reducible apply Qr.ldLv); exact rfl; (focus ((repeat (first | with_reducible exact In.here | with_reducible apply In.there)); done)))
      | ((with_reducible apply Qr.ldBu); exact rfl; (focus ((repeat (first | with_reducible exact In.here | with_reducible apply In.there)); done)))
      | ((with_reducible apply Qr.ldTime); exact rfl; (focus ((repeat (first | with_reducible exact In.here | with_reducible apply In.there)); done)))
      | ((with_reducible apply Qr.ldSide); exact rfl; (focus ((repeat (first | with_reducible exact In.here | with_reducible apply In.there)); done)))
      | ((with_reducible apply Qr.ldNoW); exact rfl; (focus ((repeat (first | with_reducible exact In.here | with_reducible apply In.there)); done)))
      | ((with_reducible apply Qr.ldHeW); exact rfl; (focus ((repeat (first | with_reducible exact In.here | with_reducible apply In.there)); done)))
      | ((with_reducible apply Qr.ldPuI (k := i)); exact rfl; (focus omega); omega; (focus ((repeat (first | with_reducible exact In.here | with_reducible apply In.there)); done)))
      | ((with_reducible apply Qr.ldVaI (k := i)); exact rfl; (focus omega); omega; (focus ((repeat (first | with_reducible exact In.here | with_reducible apply In.there)); done)))
      | ((with_reducible apply Qr.loadFull); exact rfl; (focus ((repeat (first | with_reducible exact In.here | with_reducible apply In.there)); done)); with_reducible exact SS.len _ _)))
    | (refine J.qo ?_; refine ⟨?_, ?_⟩; focus (first
      | ((with_reducible apply Qr.ldLv); exact rfl; (focus ((repeat (first | with_reducible exact In.here | with_reducible apply In.there)); done)))
      | ((with_reducible apply Qr.ldBu); exact rfl; (focus ((repeat (first | with_reducible exact In.here | with_reducible apply In.there)); done)))
      | ((with_reducible apply Qr.ldTime); exact rfl; (focus ((repeat (first | with_reducible exact In.here | with_reducible apply In.there)); done)))
      | ((with_reducible apply Qr.ldSide); exact rfl; (focus ((repeat (first | with_reducible exact In.here | with_reducible apply In.there)); done)))
      | ((with_reducible apply Qr.ldNoW); exact rfl; (focus ((repeat (first | with_reducible exact In.here | with_reducible apply In.there)); done)))
      | ((with_reducible apply Qr.ldHeW); exact rfl; (focus ((repeat (first | with_reducible exact In.here | with_reducible apply In.there)); done)))
      | ((with_reducible apply Qr.ldPuI (k := i)); exact rfl; (focus omega); omega; (focus ((repeat (first | with_reducible exact In.here | with_reducible apply In.there)); done)))
      | ((with_reducible apply Qr.ldVaI (k := i)); exact rfl; (focus omega); omega; (focus ((repeat (first | with_reducible exact In.here | with_reducible apply In.there)); done)))
      | ((with_reducible apply Qr.loadFull); exact rfl; (focus ((repeat (first | with_reducible exact In.here | with_reducible apply In.there)); done)); with_reducible exact SS.len _ _)))
    | ((with_reducible apply J.storeFull); exact rfl; exact rfl; (repeat (first | with_reducible exact Upd.here | with_reducible apply Upd.there)); (with_reducible exact SS.len _ _); (focus (first | (with_reducible exact SS.len _ _) | kernel_rfl)); with_reducible exact SS.ones _ _ _ _)
    | ((with_reducible apply J.stPuI (k := i)); exact rfl; (focus omega); omega; exact rfl; (repeat (first | with_reducible exact Upd.here | with_reducible apply Upd.there)))
    | ((with_reducible apply J.stVaI (k := i)); exact rfl; (focus omega); omega; exact rfl; (repeat (first | with_reducible exact Upd.here | with_reducible apply Upd.there)))
    | ((with_reducible apply J.stLv); exact rfl; exact rfl; (repeat (first | with_reducible exact Upd.here | with_reducible apply Upd.there)))
    | refine J.one ?_
    | refine J.loudS ?_
    | (refine J.loudQ ?_; intro _ _)
    | (refine J.loudB ?_; intro _)
    | (with_reducible apply J.list)
    | ((with_reducible apply J.draw (id := 5) [0, 0, 0, 4, 0, 16, 0, 76, 252, 508, 0, 1024, 0, 4096, 0, 19456, 64512, 130048, 0, 263165, 787453, 0, 4194303, 8388607] (.p 0 (.p 1 (.p 2 (.p 3 (.p 4 (.p 5 (.p 6 (.p 7 (.p 8 (.q 9 (.p 10 (.p 11 (.p 12 (.p 13 (.p 14 (.p 15 (.p 16 (.q 17 (.p 18 (.p 19 (.p 21 (.x 20 (.p 22 (.x 23 .nil .none)) .none)))))))))))))))))))))) (by kernel_rfl) ?_ (by kernel_rfl) ?_); (repeat (with_reducible first | exact PanicFree.body | exact PanicFree.np | exact PanicFree.lvS | apply PanicFree.then_ | apply PanicFree.blk)))
    | ((with_reducible apply J.draw (id := 9) [0, 1, 0, 4, 0, 28, 60, 124, 0, 256, 0, 1792, 3840, 7936, 0, 16384, 0, 114688, 245760, 507904, 1048572, 2097148, 4194303, 8388607, 16777215] (.p 0 (.q 1 (.p 2 (.q 3 (.p 4 (.p 5 (.p 6 (.q 7 (.p 8 (.q 9 (.p 10 (.p 11 (.p 12 (.q 13 (.p 14 (.q 15 (.p 16 (.p 17 (.p 18 (.q 19 (.p 20 (.x 21 (.x 22 (.p 23 (.x 24 .nil .none)) .none) .none)))))))))))))))))))))) (by kernel_rfl) ?_ (by kernel_rfl) ?_); (repeat (with_reducible first | exact PanicFree.body | exact PanicFree.np | exact PanicFree.lvS | apply PanicFree.then_ | apply PanicFree.blk)))
    | ((with_reducible apply J.pl2); exact rfl; (first | exact Gd.none | ((with_reducible apply Gd.on); exact rfl; exact rfl)); (first | exact pend_au | fail))
    | ((with_reducible apply J.pl2_off); exact rfl; ((with_reducible apply Gd.off); exact rfl; exact rfl; exact rfl); exact rfl; (first | exact pend_au | fail))
    | ((with_reducible apply J.pl2_off_none); exact rfl; ((with_reducible apply Gd.off); exact rfl; exact rfl; exact rfl); (first | exact pend_au | fail))
    | ((with_reducible first | apply J.psplit0 | apply J.psplit1 | apply J.psplit2); exact rfl; exact rfl; exact rfl)
    | (with_reducible exact J.pl_none)
    | ((with_reducible apply J.gsplit); exact rfl; exact rfl)
    | ((with_reducible first | apply J.cond | apply JC.cond); exact rfl)
    | (intro h; exfalso; (first | (simp at h; done) | omega))
    | (intro h; (try simp only [decide_eq_true_eq, decide_eq_false_iff_not, beq_iff_eq, beq_eq_false_iff_ne, Bool.not_eq_true', Bool.not_eq_false', bne_iff_ne, bne_eq_false_iff_eq, ne_eq, ge_iff_le, gt_iff_lt] at h))
    | (with_reducible apply J.gave')
    | ((with_reducible apply J.kept'); rotate_left; (first | exact outs_au | fail))
  rename_i b1 b2 b3
  apply J.reB (b := b2) (C' := zS.cells (.slice none 0 0))
  · (repeat (first | with_reducible exact Upd.here | with_reducible apply Upd.there))
  · kernel_rfl
  apply J.loopI (σ := Nat) (I := fun q => q ≤ 16) (L := fun q => [(1, .pointer (some ⟨b1, 0, none⟩)), (2, .pointer (some ⟨b2, 0, none⟩)), (3, .pointer (some ⟨b3, 0, none⟩)), (4, .int .i64 (q : Int))]) (HH := fun q => [blk b1 (s.cells (.slice ao L.length cap)) 34, blk b2 (zS.cells (.slice none 0 0)) 39, blk b3 ((plS s q).cells (.slice none 0 0)) 39]) (m := fun q => 16 - q) (s0 := 0)
  · ((try dsimp only); omega)
  · ((try dsimp only); repeat (first | exact sub.nil _ | (refine sub.consE rfl ?_ ?_; (first | with_reducible rfl | (fail) | rfl))))
  · ((try dsimp only); (first | exact outs_au | fail))
  rintro i hI
  try dsimp only at hI ⊢
  repeat' first
    | ((with_reducible apply J.ret); exact rfl; exact rfl; (repeat (first | (with_reducible exact Res.nil) | ((with_reducible apply Res.tmp); exact rfl) | ((with_reducible apply Res.full); exact rfl; (focus ((repeat (first | with_reducible exact In.here | with_reducible apply In.there)); done)); (with_reducible exact SS.len _ _)) | ((with_reducible apply Res.cell1); exact rfl; (repeat (first | with_reducible exact In.here | with_reducible apply In.there)); exact rfl))); exact rfl)
    | (with_reducible first | apply J.then_panic | apply J.blk_panic | apply J.sco_panic)
    | (refine J.qv ?_; (with_reducible apply exq); focus (first
      | ((with_reducible apply Qv.buildS); exact rfl; (refine bf_pl s ?_ rfl rfl rfl rfl rfl; kernel_rfl))
      | ((with_reducible apply Qv.idxO); exact rfl; exact rfl; (constructor <;> omega))))
    | (refine J.qr ?_; (with_reducible apply exq); focus (first
      | ((with_reducible apply Qr.ldLv); exact rfl; (focus ((repeat (first | with_reducible exact In.here | with_reducible apply In.there)); done)))
      | ((with_reducible apply Qr.ldBu); exact rfl; (focus ((repeat (first | with_reducible exact In.here | with_reducible apply In.there)); done)))
      | ((with_reducible apply Qr.ldTime); exact rfl; (focus ((repeat (first | with_reducible exact In.here | with_reducible apply In.there)); done)))
      | ((with_reducible apply Qr.ldSide); exact rfl; (focus ((repeat (first | with_reducible exact In.here | with_reducible apply In.there)); done)))
      | ((with_reducible apply Qr.ldNoW); exact rfl; (focus ((repeat (first | with_reducible exact In.here | with_reducible apply In.there)); done)))
      | ((with_reducible apply Qr.ldHeW); exact rfl; (focus ((repeat (first | with_reducible exact In.here | with_reducible apply In.there)); done)))
      | ((with_reducible apply Qr.ldPuI (k := i)); exact rfl; (focus omega); omega; (focus ((repeat (first | with_reducible exact In.here | with_reducible apply In.there)); done)))
      | ((with_reducible apply Qr.ldVaI (k := i)); exact rfl; (focus omega); omega; (focus ((repeat (first | with_reducible exact In.here | with_reducible apply In.there)); done)))
      | ((with_reducible apply Qr.loadFull); exact rfl; (focus ((repeat (first | with_reducible exact In.here | with_reducible apply In.there)); done)); with_reducible exact SS.len _ _)))
    | (refine J.qo ?_; refine ⟨?_, ?_⟩; focus (first
      | ((with_reducible apply Qr.ldLv); exact rfl; (focus ((repeat (first | with_reducible exact In.here | with_reducible apply In.there)); done)))
      | ((with_reducible apply Qr.ldBu); exact rfl; (focus ((repeat (first | with_reducible exact In.here | with_reducible apply In.there)); done)))
      | ((with_reducible apply Qr.ldTime); exact rfl; (focus ((repeat (first | with_reducible exact In.here | with_reducible apply In.there)); done)))
      | ((with_reducible apply Qr.ldSide); exact rfl; (focus ((repeat (first | with_reducible exact In.here | with_reducible apply In.there)); done)))
      | ((with_reducible apply Qr.ldNoW); exact rfl; (focus ((repeat (first | with_reducible exact In.here | with_reducible apply In.there)); done)))
      | ((with_reducible apply Qr.ldHeW); exact rfl; (focus ((repeat (first | with_reducible exact In.here | with_reducible apply In.there)); done)))
      | ((with_reducible apply Qr.ldPuI (k := i)); exact rfl; (focus omega); omega; (focus ((repeat (first | with_reducible exact In.here | with_reducible apply In.there)); done)))
      | ((with_reducible apply Qr.ldVaI (k := i)); exact rfl; (focus omega); omega; (focus ((repeat (first | with_reducible exact In.here | with_reducible apply In.there)); done)))
      | ((with_reducible apply Qr.loadFull); exact rfl; (focus ((repeat (first | with_reducible exact In.here | with_reducible apply In.there)); done)); with_reducible exact SS.len _ _)))
    | ((with_reducible apply J.storeFull); exact rfl; exact rfl; (repeat (first | with_reducible exact Upd.here | with_reducible apply Upd.there)); (with_reducible exact SS.len _ _); (focus (first | (with_reducible exact SS.len _ _) | kernel_rfl)); with_reducible exact SS.ones _ _ _ _)
    | ((with_reducible apply J.stPuI (k := i)); exact rfl; (focus omega); omega; exact rfl; (repeat (first | with_reducible exact Upd.here | with_reducible apply Upd.there)))
    | ((with_reducible apply J.stVaI (k := i)); exact rfl; (focus omega); omega; exact rfl; (repeat (first | with_reducible exact Upd.here | with_reducible apply Upd.there)))
    | ((with_reducible apply J.stLv); exact rfl; exact rfl; (repeat (first | with_reducible exact Upd.here | with_reducible apply Upd.there)))
    | refine J.one ?_
    | refine J.loudS ?_
    | (refine J.loudQ ?_; intro _ _)
    | (refine J.loudB ?_; intro _)
    | (with_reducible apply J.list)
    | ((with_reducible apply J.draw (id := 5) [0, 0, 0, 4, 0, 16, 0, 76, 252, 508, 0, 1024, 0, 4096, 0, 19456, 64512, 130048, 0, 263165, 787453, 0, 4194303, 8388607] (.p 0 (.p 1 (.p 2 (.p 3 (.p 4 (.p 5 (.p 6 (.p 7 (.p 8 (.q 9 (.p 10 (.p 11 (.p 12 (.p 13 (.p 14 (.p 15 (.p 16 (.q 17 (.p 18 (.p 19 (.p 21 (.x 20 (.p 22 (.x 23 .nil .none)) .none)))))))))))))))))))))) (by kernel_rfl) ?_ (by kernel_rfl) ?_); (repeat (with_reducible first | exact PanicFree.body | exact PanicFree.np | exact PanicFree.lvS | apply PanicFree.then_ | apply PanicFree.blk)))
    | ((with_reducible apply J.draw (id := 9) [0, 1, 0, 4, 0, 28, 60, 124, 0, 256, 0, 1792, 3840, 7936, 0, 16384, 0, 114688, 245760, 507904, 1048572, 2097148, 4194303, 8388607, 16777215] (.p 0 (.q 1 (.p 2 (.q 3 (.p 4 (.p 5 (.p 6 (.q 7 (.p 8 (.q 9 (.p 10 (.p 11 (.p 12 (.q 13 (.p 14 (.q 15 (.p 16 (.p 17 (.p 18 (.q 19 (.p 20 (.x 21 (.x 22 (.p 23 (.x 24 .nil .none)) .none) .none)))))))))))))))))))))) (by kernel_rfl) ?_ (by kernel_rfl) ?_); (repeat (with_reducible first | exact PanicFree.body | exact PanicFree.np | exact PanicFree.lvS | apply PanicFree.then_ | apply PanicFree.blk)))
    | ((with_reducible apply J.pl2); exact rfl; (first | exact Gd.none | ((with_reducible apply Gd.on); exact rfl; exact rfl)); (first | exact pend_au | fail))
    | ((with_reducible apply J.pl2_off); exact rfl; ((with_reducible apply Gd.off); exact rfl; exact rfl; exact rfl); exact rfl; (first | exact pend_au | fail))
    | ((with_reducible apply J.pl2_off_none); exact rfl; ((with_reducible apply Gd.off); exact rfl; exact rfl; exact rfl); (first | exact pend_au | fail))
    | ((with_reducible first | apply J.psplit0 | apply J.psplit1 | apply J.psplit2); exact rfl; exact rfl; exact rfl)
    | (with_reducible exact J.pl_none)
    | ((with_reducible apply J.gsplit); exact rfl; exact rfl)
    | ((with_reducible first | apply J.cond | apply JC.cond); exact rfl)
    | (intro h; exfalso; (first | (simp at h; done) | omega))
    | (intro h; (try simp only [decide_eq_true_eq, decide_eq_false_iff_not, beq_iff_eq, beq_eq_false_iff_ne, Bool.not_eq_true', Bool.not_eq_false', bne_iff_ne, bne_eq_false_iff_eq, ne_eq, ge_iff_le, gt_iff_lt] at h))
    | (with_reducible apply J.gave')
    | ((with_reducible apply J.kept'); rotate_left; (first | exact outs_au | fail))
  all_goals first
    | (exfalso; omega)
    | (apply J.reB (b := b3) (C' := (plS s (i + 1)).cells (.slice none 0 0))
       · (repeat (first | with_reducible exact Upd.here | with_reducible apply Upd.there))
       · exact congrArg (fun x : SS => x.cells (.slice none 0 0)) (plS_s s i)
       · (apply J.againI (s := i) (s' := (i + 1)); (focus (omega)); (focus ((try dsimp only); omega)); (focus (((try dsimp only); repeat (first | exact sub.nil _ | (refine sub.consE rfl ?_ ?_; (first | with_reducible rfl | ((focus (congr 1; omega))) | rfl)))))); ((try dsimp only); (first | exact outs_au | fail))))
    | skip
  have e0 : i = 16 := by omega
  subst e0
  apply J.reB (b := b3) (C' := s.cells (.slice none 0 0))
  · (repeat (first | with_reducible exact Upd.here | with_reducible apply Upd.there))
  · exact plS_16 s _
  refine J.nilRowC 99 3 (lcs (L.take 0)) rfl ?_
  apply J.loopI (σ := Nat × (Option Addr × Nat)) (I := fun q => q.1 ≤ L.length) (L := fun q => [(1, .pointer (some ⟨b1, 0, none⟩)), (2, .pointer (some ⟨b2, 0, none⟩)), (3, .pointer (some ⟨b3, 0, none⟩)), (5, .int .i64 (q.1 : Int))]) (HH := fun q => [row (.slice q.2.1 q.1 q.2.2) 99 3 q.1 (lcs (L.take q.1)), blk b1 (s.cells (.slice ao L.length cap)) 34, blk b2 (zS.cells (.slice none 0 0)) 39, blk b3 (s.cells (.slice q.2.1 q.1 q.2.2)) 39]) (m := fun q => L.length - q.1) (s0 := (0, (none, 0)))
  · ((try dsimp only); omega)
  · ((try dsimp only); repeat (first | exact sub.nil _ | (refine sub.consE rfl ?_ ?_; (first | with_reducible rfl | (fail) | rfl))))
  · ((try dsimp only); (first | exact outs_au | fail))
  rintro ⟨k, q0⟩ hI
  try dsimp only at hI ⊢
  repeat' first
    | ((with_reducible apply J.ret); exact rfl; exact rfl; (repeat (first | (with_reducible exact Res.nil) | ((with_reducible apply Res.tmp); exact rfl) | ((with_reducible apply Res.full); exact rfl; (focus ((repeat (first | with_reducible exact In.here | with_reducible apply In.there)); done)); (with_reducible exact SS.len _ _)) | ((with_reducible apply Res.cell1); exact rfl; (repeat (first | with_reducible exact In.here | with_reducible apply In.there)); exact rfl))); exact rfl)
    | (with_reducible first | apply J.then_panic | apply J.blk_panic | apply J.sco_panic)
    | (refine J.qv ?_; (with_reducible apply exq); focus (first
      | ((with_reducible apply Qv.fieldAdd); exact rfl)
      | ((with_reducible apply Qv.indexSrcs (k := k)); exact rfl; exact rfl; (focus omega); (focus omega); exact hao (by omega))))
    | (refine J.qr ?_; (with_reducible apply exq); focus (first
      | ((with_reducible apply Qr.indexRd (k := k) (C := lcs L)); exact rfl; exact rfl; exact rfl; omega; exact RH.old hr; (rw [lcs_length]; omega))
      | ((with_reducible apply Qr.rd1 (C := lcs L) (j := k * 3 + 0)); exact rfl; exact RH.old hr; exact lcs_get (by omega) (by decide))
      | ((with_reducible apply Qr.rd1 (C := lcs L) (j := k * 3 + 1)); exact rfl; exact RH.old hr; exact lcs_get (by omega) (by decide))
      | ((with_reducible apply Qr.rd1 (C := lcs L) (j := k * 3 + 2)); exact rfl; exact RH.old hr; exact lcs_get (by omega) (by decide))
      | ((with_reducible apply Qr.ldLv); exact rfl; (focus ((repeat (first | with_reducible exact In.here | with_reducible apply In.there)); done)))
      | ((with_reducible apply Qr.loadFull); exact rfl; (focus ((repeat (first | with_reducible exact In.here | with_reducible apply In.there)); done)); with_reducible exact SS.len _ _)))
    | (refine J.qo ?_; refine ⟨?_, ?_⟩; focus (first
      | ((with_reducible apply Qr.indexRd (k := k) (C := lcs L)); exact rfl; exact rfl; exact rfl; omega; exact RH.old hr; (rw [lcs_length]; omega))
      | ((with_reducible apply Qr.rd1 (C := lcs L) (j := k * 3 + 0)); exact rfl; exact RH.old hr; exact lcs_get (by omega) (by decide))
      | ((with_reducible apply Qr.rd1 (C := lcs L) (j := k * 3 + 1)); exact rfl; exact RH.old hr; exact lcs_get (by omega) (by decide))
      | ((with_reducible apply Qr.rd1 (C := lcs L) (j := k * 3 + 2)); exact rfl; exact RH.old hr; exact lcs_get (by omega) (by decide))
      | ((with_reducible apply Qr.ldLv); exact rfl; (focus ((repeat (first | with_reducible exact In.here | with_reducible apply In.there)); done)))
      | ((with_reducible apply Qr.loadFull); exact rfl; (focus ((repeat (first | with_reducible exact In.here | with_reducible apply In.there)); done)); with_reducible exact SS.len _ _)))
    | ((with_reducible apply J.appendR); exact rfl; exact rfl; (repeat (first | with_reducible exact Out.here | with_reducible apply Out.there)); exact rfl; exact RH.blk0 (by (repeat (first | with_reducible exact In.here | with_reducible apply In.there))); exact rfl; exact rfl; exact rfl; exact rfl; omega; omega; intro _ _)
    | ((with_reducible apply J.storeFull); exact rfl; exact rfl; (repeat (first | with_reducible exact Upd.here | with_reducible apply Upd.there)); (with_reducible exact SS.len _ _); (focus (first | (with_reducible exact SS.len _ _) | kernel_rfl)); with_reducible exact SS.ones _ _ _ _)
    | ((with_reducible apply J.stLv); exact rfl; exact rfl; (repeat (first | with_reducible exact Upd.here | with_reducible apply Upd.there)))
    | refine J.one ?_
    | refine J.loudS ?_
    | (refine J.loudQ ?_; intro _ _)
    | (refine J.loudB ?_; intro _)
    | (with_reducible apply J.list)
    | ((with_reducible apply J.draw (id := 5) [0, 0, 0, 4, 0, 16, 0, 76, 252, 508, 0, 1024, 0, 4096, 0, 19456, 64512, 130048, 0, 263165, 787453, 0, 4194303, 8388607] (.p 0 (.p 1 (.p 2 (.p 3 (.p 4 (.p 5 (.p 6 (.p 7 (.p 8 (.q 9 (.p 10 (.p 11 (.p 12 (.p 13 (.p 14 (.p 15 (.p 16 (.q 17 (.p 18 (.p 19 (.p 21 (.x 20 (.p 22 (.x 23 .nil .none)) .none)))))))))))))))))))))) (by kernel_rfl) ?_ (by kernel_rfl) ?_); (repeat (with_reducible first | exact PanicFree.body | exact PanicFree.np | exact PanicFree.lvS | apply PanicFree.then_ | apply PanicFree.blk)))
    | ((with_reducible apply J.draw (id := 9) [0, 1, 0, 4, 0, 28, 60, 124, 0, 256, 0, 1792, 3840, 7936, 0, 16384, 0, 114688, 245760, 507904, 1048572, 2097148, 4194303, 8388607, 16777215] (.p 0 (.q 1 (.p 2 (.q 3 (.p 4 (.p 5 (.p 6 (.q 7 (.p 8 (.q 9 (.p 10 (.p 11 (.p 12 (.q 13 (.p 14 (.q 15 (.p 16 (.p 17 (.p 18 (.q 19 (.p 20 (.x 21 (.x 22 (.p 23 (.x 24 .nil .none)) .none) .none)))))))))))))))))))))) (by kernel_rfl) ?_ (by kernel_rfl) ?_); (repeat (with_reducible first | exact PanicFree.body | exact PanicFree.np | exact PanicFree.lvS | apply PanicFree.then_ | apply PanicFree.blk)))
    | ((with_reducible apply J.pl2); exact rfl; (first | exact Gd.none | ((with_reducible apply Gd.on); exact rfl; exact rfl)); (first | exact pend_au | fail))
    | ((with_reducible apply J.pl2_off); exact rfl; ((with_reducible apply Gd.off); exact rfl; exact rfl; exact rfl); exact rfl; (first | exact pend_au | fail))
    | ((with_reducible apply J.pl2_off_none); exact rfl; ((with_reducible apply Gd.off); exact rfl; exact rfl; exact rfl); (first | exact pend_au | fail))
    | ((with_reducible first | apply J.psplit0 | apply J.psplit1 | apply J.psplit2); exact rfl; exact rfl; exact rfl)
    | (with_reducible exact J.pl_none)
    | ((with_reducible apply J.gsplit); exact rfl; exact rfl)
    | ((with_reducible first | apply J.cond | apply JC.cond); exact rfl)
    | (intro h; exfalso; (first | (simp at h; done) | omega))
    | (intro h; (try simp only [decide_eq_true_eq, decide_eq_false_iff_not, beq_iff_eq, beq_eq_false_iff_ne, Bool.not_eq_true', Bool.not_eq_false', bne_iff_ne, bne_eq_false_iff_eq, ne_eq, ge_iff_le, gt_iff_lt] at h))
    | (with_reducible apply J.gave')
    | ((with_reducible apply J.kept'); rotate_left; (first | exact outs_au | fail))
  all_goals first
    | (exfalso; omega)
    | (have e0 : k = L.length := by omega
       subst e0
       (with_reducible apply J.endSt)
       · (first | exact outs_au | fail)
       · rfl
       · rw [List.take_length]
       · rfl
       · rfl)
    | (rename_i bb q1 hq1
       apply J.reR (n' := k + 1) (C' := lcs (L.take (k + 1)))
       · (repeat (first | with_reducible exact Upd.here | with_reducible apply Upd.there))
       · rfl
       · rfl
       · exact lcs_snoc (by omega)
       · (apply J.againI (s := (k, q0)) (s' := (k + 1, q1)); (focus (((try dsimp only) <;> omega))); (focus ((try dsimp only); ((try dsimp only) <;> omega))); (focus (((try dsimp only); repeat (first | exact sub.nil _ | (refine sub.consE rfl ?_ ?_; (first | with_reducible rfl | ((focus (congr 1))) | rfl)))))); ((try dsimp only); (first | exact outs_au | fail))))
    | (trace_state; fail)
end Go.Proofs.YtljbedladifgmaaGreat.Plx
namespace Go.Proofs.YtljbedladifgmaaGreat.App
open Go Go.RowKit Eng
set_option linter.unusedVariables false
set_option maxRecDepth 100000
set_option linter.unusedSimpArgs false
open Wide Purse Tx Sha Ss Esc Vau Lck Do Prep Ful Doo Tri Deal Mss Ots Hash Bytes
set_option maxHeartbeats 3000000
/-- A transaction that comes in. -/
structure TIn (t : Tx) : Prop where
  i : t.In
  fee : Wd t.fee
theorem tok_of {t : Tx} (h : TIn t) (hc : chk t = 0) : TOk t := by
  have hin : ∀ {n a b : Int}, inB n a b = true → a ≤ n ∧ n ≤ b := fun h => by
    unfold inB at h
    simpa using h
  unfold chk at hc
  split at hc
  · omega
  · split at hc
    · omega
    · rename_i h1 h2
      simp only [not_or, Bool.not_eq_false] at h2
      obtain ⟨h2, h3, h4⟩ := h2
      have h5 := hin h4
      have key : 4 ≤ t.ki → invE t.us t.rt t.ro t.se t.re t.to t.id = 0 ∧ sndE t.va t.ex = 0 := fun hk => by
        rw [if_neg (by omega)] at hc
        split at hc
        · rename_i h; exact absurd hc h
        · split at hc
          · rename_i h; exact absurd hc h
          · rename_i h6 h7
            exact ⟨by simpa using h6, by simpa using h7⟩
      have k1 : 4 ≤ t.ki → 0 ≤ t.se ∧ t.se ≤ 1 ∧ 0 ≤ t.re ∧ t.re ≤ 1 := fun hk => by
        have h6 := (key hk).1
        unfold invE at h6
        split at h6
        · rename_i h7
          exact ⟨(hin h7.2.2.1).1, (hin h7.2.2.1).2, (hin h7.2.2.2.1).1, (hin h7.2.2.2.1).2⟩
        · exact absurd h6 (by decide)
      have k2 : 4 ≤ t.ki → 0 ≤ t.ex ∧ t.ex ≤ 1099511627776 := fun hk => by
        have h6 := (key hk).2
        unfold sndE at h6
        split at h6
        · rename_i h7
          exact hin h7.2
        · exact absurd h6 (by decide)
      exact ⟨h.i.am, h.i.va, h.fee, h5.1, h5.2, fun hk => (k2 hk).1, fun hk => (k2 hk).2, fun hk => (k1 hk).1, fun hk => (k1 hk).2.1, fun hk => (k1 hk).2.2.1, fun hk => (k1 hk).2.2.2⟩
theorem chk_no {t : Tx} (hc : chk t = 0) : 0 ≤ t.no ∧ t.no ≤ 1099511627776 := by
  unfold chk at hc
  split at hc
  · omega
  · split at hc
    · omega
    · rename_i h1 h2
      simp only [not_or, Bool.not_eq_false] at h2
      have h3 := h2.2.1
      unfold inB at h3
      simpa using h3
/-- What it comes to. -/
structure Ap where
  s : SS
  L : List Lk
  e : Int
  ok : Bool
def SS.wPu (s : SS) (p : Nat → Int) : SS := ⟨s.side, s.time, p, s.va, s.no, s.he, s.bu⟩
def SS.wBu (s : SS) (p : Int) : SS := ⟨s.side, s.time, s.pu, s.va, s.no, s.he, p⟩
def SS.wNo (s : SS) (k : Nat) (x : Int) : SS := ⟨s.side, s.time, s.pu, s.va, upd s.no k x, s.he, s.bu⟩
theorem wvs_len16 (ns : Nat → Int) : (wvs ns 16).length = 64 := wvs_length _ _
/-- A coin is burnt. -/
def s1F (s : SS) (t : Tx) : SS := SS.wNo (SS.wBu (SS.wPu s (tkR s.pu t.fr 0 1).1) (wadd s.bu 1)) t.fr.toNat ((SS.wBu (SS.wPu s (tkR s.pu t.fr 0 1).1) (wadd s.bu 1)).no t.fr.toNat + 1)
theorem s1F_ok {s : SS} {t : Tx} (h : SOk s) : SOk (s1F s t) := ⟨tkR_wd h.pu (by unfold Wd; omega), h.va, h.he, wadd_any _ _ h.bu (by unfold Wd; omega), h.t0, h.t1⟩
noncomputable def apF (s : SS) (L : List Lk) (t : Tx) : Ap :=
  if chk t = 0 then (if t.no = s.no t.fr.toNat then (if (tkR s.pu t.fr 0 1).2 = 0 ∧ s.bu + 1 < 115792089237316195423570985008687907853269984665640564039457584007913129639936 then (if (doX (s1F s t) L t).1 = 0 then ⟨(doX (s1F s t) L t).2, doL L t, 0, true⟩ else ⟨s1F s t, L, (doX (s1F s t) L t).1, true⟩) else ⟨s, L, 21, false⟩) else ⟨s, L, 20, false⟩) else ⟨s, L, chk t, false⟩
def ApR (a : Ap) : Ending → List Asrt → Prop := fun e H => ∃ q : Option Addr × Nat, a.L.length ≤ q.2 ∧ e = .returned (.tuple #[.agg (a.s.cells (.slice q.1 a.L.length q.2)).toArray, .int .i64 a.e, .bool a.ok]) ∧ H = [row (.slice q.1 a.L.length q.2) 58 3 a.L.length (lcs a.L)]
theorem J.endAp {c : Cx} {l : TL} {H R : List Asrt} {ap : Ap} {n cap : Nat} {ao : Option Addr} {C : List Value} {r : Value} (ho : Outs [row (.slice ao n cap) 58 3 n C] H R) (hn : n = ap.L.length) (hC : C = lcs ap.L) (hr : r = .tuple #[.agg (ap.s.cells (.slice ao n cap)).toArray, .int .i64 ap.e, .bool ap.ok]) : J c l H (fun _ w => ∃ H3, ApR ap (.returned r) H3 ∧ Sat c.w0 c.own H3 w) := by
  subst hn hC hr
  refine J.mk fun a w st => ?_
  have hq : ap.L.length ≤ cap := by
    have h1 := st.2.2.perm ho.perm
    exact (h1.rd_row .here).2.1
  exact (J.post (R := ApR ap) ⟨(ao, cap), hq, rfl, rfl⟩ ho).out a w st
section
variable {P : Program} {c : Cx} {l : TL} {H : List Asrt} {Q : Exit → Act → World → Prop} {X : Act → World → Prop}
variable {ty : TypeId} {pos : String} {af : Array Edge} {d : Nat} {v : Value} {dst : Option Tmp} {mm : Nat}
theorem J.tryE {f : Nat} [i : Eng.Enters P f] {xs : List Operand} {ts : Array TypeId} {vs : List Value} {s : SS} {lv : Value} {L : List Lk} {t : Tx} {pre : World → Prop} (hS : ∀ w, pre w → CSpec P f vs [] w (TryR s lv L t)) (hd : Nat.blt d c.n = true) (hx : evs l xs = some vs) (hp : RH c.w0 c.own H pre)
    (K : (doX s L t).1 = 0 → ∀ q : Option Addr × Nat, (doL L t).length ≤ q.2 → J c ((d, .tuple #[.agg ((doX s L t).2.cells (.slice q.1 (doL L t).length q.2)).toArray, .int .i64 0]) :: l) (row (.slice q.1 (doL L t).length q.2) 58 3 (doL L t).length (lcs (doL L t)) :: H) X)
    (K2 : (doX s L t).1 ≠ 0 → J c ((d, .tuple #[.agg (s.cells lv).toArray, .int .i64 (doX s L t).1]) :: l) H X) : J c l H (OW P Q ⟨some d, .call ⟨.value (.func f), xs.toArray, ts⟩, ty, pos, af, none⟩ X) :=
  J.callS hd hx .nil (fun w s => hS w (hp w s))
    (fun v H3 h => by
      rcases h with ⟨h0, q, hq, h1, h2⟩ | ⟨h0, h1, h2⟩
      · cases h1; subst h2; exact K h0 q hq
      · cases h1; subst h2; exact K2 h0)
    (fun ch H3 h => by
      rcases h with ⟨h0, q, hq, h1, h2⟩ | ⟨h0, h1, h2⟩ <;> cases h1)
    (fun H3 h => by
      rcases h with ⟨h0, q, hq, h1, h2⟩ | ⟨h0, h1, h2⟩ <;> cases h1)
theorem Qv.idxNo {T len E : Nat} {agg : Bool} {z : List Value} [i : Ar P T len E] [t : Ty P E agg 1 z] {x y : Operand} {b : Nat} {k : IntKind} {j : Int} (hx : ev l x = some (.pointer (some ⟨b, 130, none⟩))) (hy : ev l y = some (.int k j)) (hj : 0 ≤ j ∧ j < (len : Int)) : Qv P mm l (.indexAddr T x y) (.pointer (some ⟨b, 130 + j.toNat, none⟩)) :=
  Qv.indexArr hx hy hj (by rw [Nat.mul_one])
theorem Qr.ldNo {T n : Nat} {z : List Value} [i : Ty P T false n z] {x : Operand} {b : Nat} {s : SS} {lv : Value} {E : TypeId} {k : Nat} (hx : ev l x = some (.pointer (some ⟨b, 130 + k, none⟩))) (hm : In (blk b (s.cells lv) E) H) (hk : k < 8) : Qr P c l H (.load T x) (.int .i64 (s.no k)) := Qr.load1 hx hm (s.g4 lv hk)
theorem J.stNo {T : Nat} {z : List Value} [i : Ty P T false 1 z] {x y : Operand} {b : Nat} {s : SS} {lv : Value} {E : TypeId} {H' : List Asrt} {k : Nat} {p : Int} (hx : ev l x = some (.pointer (some ⟨b, 130 + k, none⟩))) (hy : ev l y = some (.int .i64 p)) (hu : Upd (blk b (s.cells lv) E) (blk b (SS.cells (SS.wNo s k p) lv) E) H H') (hk : k < 8) (K : J c l H' X) : J c l H (OW P Q ⟨none, .store T x y, ty, pos, af, none⟩ X) := J.store1 (T := T) hx hy rfl hu (s.s4 lv hk p) (by rw [s.len]; omega) K
theorem J.wPu {T : Nat} {z : List Value} [i : Ty P T true 64 z] {x y : Operand} {b : Nat} {s : SS} {lv : Value} {E : TypeId} {H' : List Asrt} {p : Nat → Int} (hx : ev l x = some (.pointer (some ⟨b, 2, none⟩))) (hy : ev l y = some (.agg (wvs p 16).toArray)) (hu : Upd (blk b (s.cells lv) E) (blk b (SS.cells (SS.wPu s p) lv) E) H H') (K : J c l H' X) : J c l H (OW P Q ⟨none, .store T x y, ty, pos, af, none⟩ X) := J.stPu hx hy hu K
theorem J.wBu {T : Nat} {z : List Value} [i : Ty P T true 4 z] {x y : Operand} {b : Nat} {s : SS} {lv : Value} {E : TypeId} {H' : List Asrt} {p : Int} (hx : ev l x = some (.pointer (some ⟨b, 146, none⟩))) (hy : ev l y = some (.agg (wv p).toArray)) (hu : Upd (blk b (s.cells lv) E) (blk b (SS.cells (SS.wBu s p) lv) E) H H') (K : J c l H' X) : J c l H (OW P Q ⟨none, .store T x y, ty, pos, af, none⟩ X) := J.stBu hx hy hu K
end
theorem apply_ (s : SS) (ao : Option Addr) (cap : Nat) (L : List Lk) (t : Tx) (w : World) (hw : Rd w ao (lcs L) ∧ SOk s ∧ TIn t ∧ L.length + 1 ≤ maxLen ∧ (L.length + 1) * 40 ≤ 140737488355328) : CSpec Tryz.prog 15 [.agg (s.cells (.slice ao L.length cap)).toArray, .agg t.cells.toArray] [] w (ApR (apF s L t)) := by
  obtain ⟨hr, hs, ht, hm1, hb⟩ := hw
  refine spec_own0 Tryz.func15 rfl Tryz.ntmps15 rfl (l0 := [(0, .agg (s.cells (.slice ao L.length cap)).toArray), (1, .agg t.cells.toArray)]) rfl ?_
  repeat' first
    | ((with_reducible apply J.ret); exact rfl; exact rfl; (repeat (first | (with_reducible exact Res.nil) | ((with_reducible apply Res.tmp); exact rfl) | ((with_reducible apply Res.full); exact rfl; (focus ((repeat (first | with_reducible exact In.here | with_reducible apply In.there)); done)); (with_reducible exact SS.len _ _)) | ((with_reducible apply Res.cell1); exact rfl; (repeat (first | with_reducible exact In.here | with_reducible apply In.there)); exact rfl))); exact rfl)
    | ((with_reducible apply J.seqCut (id := 7) (α := Nat × Nat × Nat × Nat × (Option Addr × Nat) × List Value) (p := fun x => List.length x.2.2.2.2.2 = 151) (L := fun x => [(2, .pointer (some ⟨x.1, 0, none⟩)), (3, .pointer (some ⟨x.2.1, 0, none⟩)), (4, .pointer (some ⟨x.2.2.1, 0, none⟩)), (5, .int .i64 0), (6, .bool false), (8, .pointer (some ⟨x.2.2.2.1, 0, none⟩)), (9, .int .i64 (tkR s.pu t.fr 0 1).2)]) (HH := fun x => [row (.slice x.2.2.2.2.1.1 L.length x.2.2.2.2.1.2) 58 3 L.length (lcs L), blk x.1 (s.cells (.slice x.2.2.2.2.1.1 L.length x.2.2.2.2.1.2)) 34, blk x.2.1 t.cells 50, blk x.2.2.2.1 (wvs (tkR s.pu t.fr 0 1).1 16) 30, blk x.2.2.1 x.2.2.2.2.2 34])); rotate_left; rintro ⟨b2, b3, b4, b8, q, z4⟩ hz4; (try dsimp only))
    | ((with_reducible apply J.seqCut (id := 8) (α := Nat × Nat × Nat × Nat × Nat × (Option Addr × Nat) × List Value) (p := fun x => List.length x.2.2.2.2.2.2 = 151) (L := fun x => [(2, .pointer (some ⟨x.2.1, 0, none⟩)), (3, .pointer (some ⟨x.2.2.1, 0, none⟩)), (4, .pointer (some ⟨x.2.2.2.1, 0, none⟩)), (5, .int .i64 0), (6, .bool false), (8, .pointer (some ⟨x.2.2.2.2.1, 0, none⟩)), (9, .int .i64 (tkR s.pu t.fr 0 1).2), (10, .pointer (some ⟨x.1, 0, none⟩)), (11, .bool (decide (s.bu + 1 < 115792089237316195423570985008687907853269984665640564039457584007913129639936)))]) (HH := fun x => [row (.slice x.2.2.2.2.2.1.1 L.length x.2.2.2.2.2.1.2) 58 3 L.length (lcs L), blk x.2.1 (s.cells (.slice x.2.2.2.2.2.1.1 L.length x.2.2.2.2.2.1.2)) 34, blk x.2.2.1 t.cells 50, blk x.2.2.2.2.1 (wvs (tkR s.pu t.fr 0 1).1 16) 30, blk x.2.2.2.1 x.2.2.2.2.2.2 34, blk x.1 (wv (wadd s.bu 1)) 27])); rotate_left; rintro ⟨c10, b2, b3, b4, b8, q, z4⟩ hz4; (try dsimp only))
    | ((with_reducible apply J.meet (?_, ?_, ?_, ?_, ?_, ?_)); (case hs => ((try dsimp only); repeat (first | exact sub.nil _ | (refine sub.consE rfl ?_ ?_; (first | with_reducible rfl | (fail) | rfl))))); (case ho => ((try dsimp only); (first | exact outs_au | fail); done)); (case hp => (first | exact hz4 | kernel_rfl)))
    | ((with_reducible apply J.meet (?_, ?_, ?_, ?_, ?_, ?_, ?_)); (case hs => ((try dsimp only); repeat (first | exact sub.nil _ | (refine sub.consE rfl ?_ ?_; (first | with_reducible rfl | (fail) | rfl))))); (case ho => ((try dsimp only); (first | exact outs_au | fail); done)); (case hp => (first | exact hz4 | kernel_rfl)))
    | (with_reducible first | apply J.then_panic | apply J.blk_panic | apply J.sco_panic)
    | (intro _ _ _)
    | (refine J.qv ?_; (with_reducible apply exq); focus (first
      | ((with_reducible apply Qv.idxNo); exact rfl; exact rfl; (have h7 := chk_fr (by assumption); constructor <;> omega))
      | ((with_reducible apply Qv.add); exact rfl; exact rfl; exact wr64 (by have h7 := chk_no (by assumption); dsimp only [SS.wBu, SS.wPu]; omega) (by have h7 := chk_no (by assumption); dsimp only [SS.wBu, SS.wPu]; omega) rfl)))
    | (refine J.qr ?_; (with_reducible apply exq); focus (first
      | ((with_reducible apply Qr.ldLv); exact rfl; (focus ((repeat (first | with_reducible exact In.here | with_reducible apply In.there)); done)))
      | ((with_reducible apply Qr.ldNo); exact rfl; (focus ((repeat (first | with_reducible exact In.here | with_reducible apply In.there)); done)); (have h7 := chk_fr (by assumption); omega))
      | ((with_reducible apply Qr.ldPu); exact rfl; (focus ((repeat (first | with_reducible exact In.here | with_reducible apply In.there)); done)))
      | ((with_reducible apply Qr.ldBu); exact rfl; (focus ((repeat (first | with_reducible exact In.here | with_reducible apply In.there)); done)))
      | ((with_reducible apply Qr.ldTime); exact rfl; (focus ((repeat (first | with_reducible exact In.here | with_reducible apply In.there)); done)))
      | ((with_reducible apply Qr.ldSide); exact rfl; (focus ((repeat (first | with_reducible exact In.here | with_reducible apply In.there)); done)))
      | ((with_reducible apply Qr.loadFull); exact rfl; (focus ((repeat (first | with_reducible exact In.here | with_reducible apply In.there)); done)); (first | (with_reducible exact SS.len _ _) | (with_reducible exact wvs_len16 _) | (with_reducible exact wv_length _) | exact rfl))))
    | (refine J.qo ?_; refine ⟨?_, ?_⟩; focus (first
      | ((with_reducible apply Qr.ldLv); exact rfl; (focus ((repeat (first | with_reducible exact In.here | with_reducible apply In.there)); done)))
      | ((with_reducible apply Qr.ldNo); exact rfl; (focus ((repeat (first | with_reducible exact In.here | with_reducible apply In.there)); done)); (have h7 := chk_fr (by assumption); omega))
      | ((with_reducible apply Qr.ldPu); exact rfl; (focus ((repeat (first | with_reducible exact In.here | with_reducible apply In.there)); done)))
      | ((with_reducible apply Qr.ldBu); exact rfl; (focus ((repeat (first | with_reducible exact In.here | with_reducible apply In.there)); done)))
      | ((with_reducible apply Qr.ldTime); exact rfl; (focus ((repeat (first | with_reducible exact In.here | with_reducible apply In.there)); done)))
      | ((with_reducible apply Qr.ldSide); exact rfl; (focus ((repeat (first | with_reducible exact In.here | with_reducible apply In.there)); done)))
      | ((with_reducible apply Qr.loadFull); exact rfl; (focus ((repeat (first | with_reducible exact In.here | with_reducible apply In.there)); done)); (first | (with_reducible exact SS.len _ _) | (with_reducible exact wvs_len16 _) | (with_reducible exact wv_length _) | exact rfl))))
    | ((with_reducible apply J.storeFull); exact rfl; exact rfl; (repeat (first | with_reducible exact Upd.here | with_reducible apply Upd.there)); (with_reducible exact SS.len _ _); (focus (first | with_reducible exact hz4 | (with_reducible exact SS.len _ _) | kernel_rfl)); with_reducible exact SS.ones _ _ _ _)
    | ((with_reducible apply J.storeFull); exact rfl; exact rfl; (repeat (first | with_reducible exact Upd.here | with_reducible apply Upd.there)); (first | (with_reducible exact wvs_len16 _) | (with_reducible exact wv_length _)); kernel_rfl; (first | exact wvs_ones _ _ | rfl))
    | ((with_reducible apply J.wPu); exact rfl; exact rfl; (repeat (first | with_reducible exact Upd.here | with_reducible apply Upd.there)))
    | ((with_reducible apply J.wBu); exact rfl; exact rfl; (repeat (first | with_reducible exact Upd.here | with_reducible apply Upd.there)))
    | ((with_reducible apply J.stLv); exact rfl; exact rfl; (repeat (first | with_reducible exact Upd.here | with_reducible apply Upd.there)))
    | ((with_reducible apply J.stNo); exact rfl; exact rfl; (repeat (first | with_reducible exact Upd.here | with_reducible apply Upd.there)); (have h7 := chk_fr (by assumption); omega))
    | ((with_reducible apply J.freshR (clone_lock _ _ _ (lcs L))); exact rfl; exact rfl; (exact RH.and (RH.old hr) (RH.of ⟨lcs_length L, lcs_ones L, by omega, by omega⟩)); intro _ _)
    | ((with_reducible apply J.givesP (check _)); exact rfl; exact rfl; (exact ht.i))
    | ((with_reducible apply J.givesP (Purse.take _ _ _ _)); exact rfl; exact rfl; (exact ⟨hs.pu, by unfold Wd; omega⟩))
    | ((with_reducible apply J.givesP (Wide.of _)); exact rfl; exact rfl; (unfold Wo; omega))
    | ((with_reducible apply J.givesP (Wide.add _ _)); exact rfl; exact rfl; (exact ⟨hs.bu, by unfold Wd; omega⟩))
    | ((with_reducible apply J.tryE (try_ _ _ _ L t)); exact rfl; exact rfl; (exact RH.and (RH.row (by (repeat (first | with_reducible exact In.here | with_reducible apply In.there)))) (RH.of ⟨s1F_ok (t := t) hs, tok_of ht (by assumption), hm1, hb⟩)))
    | refine J.one ?_
    | refine J.loudS ?_
    | (refine J.loudQ ?_; intro _ _)
    | (refine J.loudB ?_; intro _)
    | (with_reducible apply J.list)
    | ((with_reducible apply J.draw (id := 5) [0, 1, 0, 4, 0, 28, 60, 127] (.p 0 (.q 1 (.p 2 (.q 3 (.p 4 (.p 5 (.q 6 (.p 7 .nil)))))))) (by kernel_rfl) ?_ (by kernel_rfl) ?_); (repeat (with_reducible first | exact PanicFree.body | exact PanicFree.np | exact PanicFree.lvS | apply PanicFree.then_ | apply PanicFree.blk)))
    | ((with_reducible apply J.draw (id := 7) [0, 1, 0, 4, 0, 31, 63, 127, 127, 0, 767, 2047] (.p 0 (.q 1 (.p 2 (.q 3 (.x 4 (.x 5 (.p 6 (.p 7 (.p 8 (.x 9 (.x 10 (.p 11 .nil) .none) .none)))) (.x 9 (.x 5 (.p 6 (.p 7 (.p 8 (.x 10 (.p 11 .nil) .none)))) .none) .none)) (.x 9 (.x 4 (.x 5 (.p 6 (.p 7 (.p 8 (.x 10 (.p 11 .nil) .none)))) .none) .none) .none)))))) (by kernel_rfl) ?_ (by kernel_rfl) ?_); (repeat (with_reducible first | exact PanicFree.body | exact PanicFree.np | exact PanicFree.lvS | apply PanicFree.then_ | apply PanicFree.blk)))
    | ((with_reducible apply J.draw (id := 8) [0, 1, 0, 7, 15, 31, 31, 0, 191, 511] (.p 0 (.q 1 (.x 2 (.x 3 (.p 4 (.p 5 (.p 6 (.x 7 (.x 8 (.p 9 .nil) .none) .none)))) (.x 7 (.x 3 (.p 4 (.p 5 (.p 6 (.x 8 (.p 9 .nil) .none)))) .none) .none)) (.x 7 (.x 2 (.x 3 (.p 4 (.p 5 (.p 6 (.x 8 (.p 9 .nil) .none)))) .none) .none) .none)))) (by kernel_rfl) ?_ (by kernel_rfl) ?_); (repeat (with_reducible first | exact PanicFree.body | exact PanicFree.np | exact PanicFree.lvS | apply PanicFree.then_ | apply PanicFree.blk)))
    | ((with_reducible apply J.draw (id := 11) [0, 0, 1, 5, 15, 31] (.q 0 (.q 1 (.p 2 (.x 3 (.p 4 (.x 5 .nil .none)) .none)))) (by kernel_rfl) ?_ (by kernel_rfl) ?_); (repeat (with_reducible first | exact PanicFree.body | exact PanicFree.np | exact PanicFree.lvS | apply PanicFree.then_ | apply PanicFree.blk)))
    | ((with_reducible apply J.pl2); exact rfl; (first | exact Gd.none | ((with_reducible apply Gd.on); exact rfl; exact rfl)); (first | exact pend_au | fail))
    | ((with_reducible apply J.pl2_off); exact rfl; ((with_reducible apply Gd.off); exact rfl; exact rfl; exact rfl); exact rfl; (first | exact pend_au | fail))
    | ((with_reducible apply J.pl2_off_none); exact rfl; ((with_reducible apply Gd.off); exact rfl; exact rfl; exact rfl); (first | exact pend_au | fail))
    | ((with_reducible first | apply J.psplit0 | apply J.psplit1 | apply J.psplit2); exact rfl; exact rfl; exact rfl)
    | (with_reducible exact J.pl_none)
    | ((with_reducible apply J.gsplit); exact rfl; exact rfl)
    | ((with_reducible first | apply J.cond | apply JC.cond); exact rfl)
    | (intro h; exfalso; (simp at h; done))
    | (intro h; (try simp only [decide_eq_true_eq, decide_eq_false_iff_not, beq_iff_eq, beq_eq_false_iff_ne, Bool.not_eq_true', Bool.not_eq_false', bne_iff_ne, bne_eq_false_iff_eq, ne_eq, ge_iff_le, gt_iff_lt] at h))
    | (with_reducible apply J.gave')
    | ((with_reducible apply J.kept'); rotate_left; (first | exact outs_au | fail))
  all_goals
    first
    | (have e := show apF s L t = _ from (if_neg (by assumption))
       rw [e]
       (with_reducible apply J.endAp)
       · (first | exact outs_au | fail)
       · rfl
       · rfl
       · first | rfl | (simp only [*]; rfl))
    | (have e := show apF s L t = _ from ((if_pos (by assumption)).trans (if_neg (by assumption)))
       rw [e]
       (with_reducible apply J.endAp)
       · (first | exact outs_au | fail)
       · rfl
       · rfl
       · first | rfl | (simp only [*]; rfl))
    | (have e := show apF s L t = _ from ((((if_pos (by assumption)).trans (if_pos (by assumption))).trans (if_pos ⟨(by assumption), (by assumption)⟩)).trans (if_pos (by assumption)))
       rw [e]
       (with_reducible apply J.endAp)
       · (first | exact outs_au | fail)
       · rfl
       · rfl
       · first | rfl | (simp only [*]; rfl))
    | (have e := show apF s L t = _ from ((((if_pos (by assumption)).trans (if_pos (by assumption))).trans (if_pos ⟨(by assumption), (by assumption)⟩)).trans (if_neg (by assumption)))
       rw [e]
       (with_reducible apply J.endAp)
       · (first | exact outs_au | fail)
       · rfl
       · rfl
       · first | rfl | (simp only [*]; rfl))
    | (have e := show apF s L t = _ from (((if_pos (by assumption)).trans (if_pos (by assumption))).trans (if_neg (by simp [*])))
       rw [e]
       (with_reducible apply J.endAp)
       · (first | exact outs_au | fail)
       · rfl
       · rfl
       · first | rfl | (simp only [*]; rfl))
    | (trace_state; fail)
end Go.Proofs.YtljbedladifgmaaGreat.App
namespace Go.Proofs.YtljbedladifgmaaGreat.Inn
open Go Go.RowKit Eng
set_option linter.unusedVariables false
set_option maxRecDepth 100000
set_option linter.unusedSimpArgs false
open Wide Purse Tx Sha Ss Esc Vau Lck Do Prep Ful Doo Tri App
set_option maxHeartbeats 1000000
def i64s (n : Nat) : List Sh := List.replicate n (.int .i64)
def lksh : List Sh := [.str, .str, .int .i64]
def txsh : List Sh := .int .i64 :: .int .i64 :: .int .i64 :: .int .i64 :: (wsh ++ (.int .i64 :: .str :: .int .i64 :: .int .i64 :: .int .i64 :: .int .i64 :: .str :: (wsh ++ (.int .i64 :: (wsh ++ [.str])))))
def I64 (x : Int) : Prop := (Lit.int .i64 x).wf = true
theorem i64_of {x : Int} (h0 : -9223372036854775808 ≤ x) (h1 : x ≤ 9223372036854775807) : I64 x := by
  simp [I64, Lit.wf, IntKind.min, IntKind.max, IntKind.bits, IntKind.signed]
  omega
theorem reads_i {W : World} {L : List Sh} {cs : List Value} (h : Sh.ReadsL W (.int .i64 :: L) cs) : ∃ x ds, cs = .int .i64 x :: ds ∧ I64 x ∧ Sh.ReadsL W L ds := by
  simp only [Sh.ReadsL, Sh.Reads] at h
  obtain ⟨v, ds, rfl, ⟨x, rfl, h1⟩, h2⟩ := h
  exact ⟨x, ds, rfl, h1, h2⟩
theorem reads_s {W : World} {L : List Sh} {cs : List Value} (h : Sh.ReadsL W (.str :: L) cs) : ∃ (x : List UInt8) (ds : List Value), cs = str x :: ds ∧ x.length ≤ maxLen ∧ Sh.ReadsL W L ds := by
  simp only [Sh.ReadsL, Sh.Reads] at h
  obtain ⟨v, ds, rfl, ⟨x, rfl, h1⟩, h2⟩ := h
  exact ⟨x.data.toList, ds, rfl, by simpa using h1, h2⟩
theorem reads_w {W : World} {L : List Sh} {cs : List Value} (h : Sh.ReadsL W (wsh ++ L) cs) : ∃ x ds, cs = wv x ++ ds ∧ Wd x ∧ Sh.ReadsL W L ds := by
  obtain ⟨h1, h2⟩ := ReadsL_split h
  obtain ⟨x, hx, e⟩ := reads_wv h1
  exact ⟨x, cs.drop wsh.length, by rw [← e, List.take_append_drop], hx, h2⟩
/-- A transaction's numbers are such. -/
structure TNum (t : Tx) : Prop where
  fr : I64 t.fr
  no : I64 t.no
  ki : I64 t.ki
  at_ : I64 t.at_
  us : I64 t.us
  ro : I64 t.ro
  se : I64 t.se
  re : I64 t.re
  to : I64 t.to
  ex : I64 t.ex
theorem reads_tx {W : World} {cs : List Value} (h : Sh.ReadsL W txsh cs) : ∃ t : Tx, TIn t ∧ TNum t ∧ cs = t.cells := by
  unfold txsh at h
  obtain ⟨fr, c1, rfl, hfr, h1⟩ := reads_i h
  obtain ⟨no, c2, rfl, hno, h2⟩ := reads_i h1
  obtain ⟨ki, c3, rfl, hki, h3⟩ := reads_i h2
  obtain ⟨at_, c4, rfl, hat, h4⟩ := reads_i h3
  obtain ⟨am, c5, rfl, ham, h5⟩ := reads_w h4
  obtain ⟨us, c6, rfl, hus, h6⟩ := reads_i h5
  obtain ⟨rt, c7, rfl, hrt, h7⟩ := reads_s h6
  obtain ⟨ro, c8, rfl, hro, h8⟩ := reads_i h7
  obtain ⟨se, c9, rfl, hse, h9⟩ := reads_i h8
  obtain ⟨re, c10, rfl, hre, h10⟩ := reads_i h9
  obtain ⟨to, c11, rfl, hto, h11⟩ := reads_i h10
  obtain ⟨id, c12, rfl, hid, h12⟩ := reads_s h11
  obtain ⟨va, c13, rfl, hva, h13⟩ := reads_w h12
  obtain ⟨ex, c14, rfl, hex, h14⟩ := reads_i h13
  obtain ⟨fee, c15, rfl, hfe, h15⟩ := reads_w h14
  obtain ⟨sg, c16, rfl, hsg, h16⟩ := reads_s h15
  simp only [Sh.ReadsL] at h16
  subst h16
  exact ⟨⟨fr, no, ki, at_, am, us, rt, ro, se, re, to, id, va, ex, fee, sg⟩, ⟨⟨ham, hva, hrt, hid, hsg⟩, hfe⟩, ⟨hfr, hno, hki, hat, hus, hro, hse, hre, hto, hex⟩, rfl⟩
/-- Locks that come in. -/
structure LkIn (k : Lk) : Prop where
  key : k.key.length ≤ maxLen
  dig : k.dig.length ≤ maxLen
  st : I64 k.st
def LIn (L : List Lk) : Prop := ∀ k, k ∈ L → LkIn k
theorem lk0_in : LkIn lk0 := ⟨Nat.zero_le _, Nat.zero_le _, i64_of (by decide) (by decide)⟩
theorem LIn.get {L : List Lk} (h : LIn L) (i : Nat) : LkIn (L.getD i lk0) := by
  rcases Nat.lt_or_ge i L.length with h1 | h1
  · rw [List.getD_eq_getElem?_getD, List.getElem?_eq_getElem h1]
    exact h _ (List.getElem_mem h1)
  · rw [List.getD_eq_getElem?_getD, List.getElem?_eq_none h1]
    exact lk0_in
/-- A state that comes in. -/
structure SIn (s : SS) : Prop where
  side : I64 s.side
  time : I64 s.time
  pu : ∀ j, Wd (s.pu j)
  va : ∀ j, Wd (s.va j)
  no : ∀ j, I64 (s.no j)
  he : ∀ j, Wd (s.he j)
  bu : Wd s.bu
end Go.Proofs.YtljbedladifgmaaGreat.Inn
namespace Go.Proofs.YtljbedladifgmaaGreat.Sam
open Go Go.RowKit Eng
set_option linter.unusedVariables false
set_option maxRecDepth 100000
set_option linter.unusedSimpArgs false
open Wide Purse Tx Sha Ss Esc Vau Lck Do Prep Ful Doo Tri App Inn Low Gene Pln Plx Deal Mss Ots Hash Bytes
set_option maxHeartbeats 1000000
variable {s : SS} (hs : SIn s)

theorem reads_of {W : World} : ∀ {L : List Sh} {cs : List Value}, L.length = cs.length → (∀ (k : Nat) (s : Sh) (v : Value), L[k]? = some s → cs[k]? = some v → Sh.Reads W s v) → Sh.ReadsL W L cs
  | [], [], _, _ => rfl
  | [], _ :: _, h, _ => by simp at h
  | _ :: _, [], h, _ => by simp at h
  | s :: L, v :: cs, hl, h => ⟨v, cs, rfl, h 0 s v rfl rfl, reads_of (by simpa using hl) fun k s v hs hv => h (k + 1) s v (by simpa using hs) (by simpa using hv)⟩
theorem no_reads {W : World} {ns : Nat → Int} (h : ∀ j, I64 (ns j)) : Sh.ReadsL W (i64s 8) (ncell ns) := by
  refine reads_of (by rw [ncell_length]; simp [i64s]) fun k s v hs hv => ?_
  have hk : k < 8 := by
    rcases Nat.lt_or_ge k 8 with h1 | h1
    · exact h1
    · rw [List.getElem?_eq_none (by rw [ncell_length]; exact h1)] at hv; cases hv
  rw [show (i64s 8)[k]? = some (.int .i64) by simp only [i64s]; rw [List.getElem?_replicate, if_pos hk]] at hs
  rw [show (ncell ns)[k]? = some (.int .i64 (ns k)) from tab_get hk] at hv
  cases hs; cases hv
  exact ⟨_, rfl, h k⟩
theorem lk_reads {W : World} {k : Lk} (h : LkIn k) : Sh.ReadsL W lksh k.cells := by
  refine ⟨_, _, rfl, ⟨_, rfl, ?_⟩, _, _, rfl, ⟨_, rfl, ?_⟩, _, _, rfl, ⟨_, rfl, h.st⟩, rfl⟩
  · show k.key.toArray.size ≤ maxLen
    simpa using h.key
  · show k.dig.toArray.size ≤ maxLen
    simpa using h.dig
theorem eq_no {ns : Nat → Int} (h : ∀ j, I64 (ns j)) (w : World) : (Op.equal 31 (.agg (ncell ns).toArray) (.agg (ncell ns).toArray)).run Tryz.prog w = .ok true w := eq_flat (k := 3) (L := i64s 8) (by kernel_rfl) (by kernel_rfl) (by kernel_rfl) (by kernel_rfl) (by kernel_rfl) (by decide) (no_reads (W := w) h) (no_reads h) (by simp) w
theorem eq_lk {k : Lk} (h : LkIn k) (w : World) : (Op.equal 99 (.agg k.cells.toArray) (.agg k.cells.toArray)).run Tryz.prog w = .ok true w := eq_flat (k := 3) (L := lksh) (by kernel_rfl) (by kernel_rfl) (by kernel_rfl) (by kernel_rfl) (by kernel_rfl) (by decide) (lk_reads (W := w) h) (lk_reads h) (by simp) w
theorem eq_pu {ns : Nat → Int} (h : ∀ j, Wd (ns j)) (w : World) : (Op.equal 36 (.agg (wvs ns 16).toArray) (.agg (wvs ns 16).toArray)).run Tryz.prog w = .ok true w := wvs_eq (m := 16) (by kernel_rfl) (by kernel_rfl) (by kernel_rfl) (by kernel_rfl) (by kernel_rfl) (fun j _ => h j) (fun j _ => h j) (by simp) w
theorem eq_he {ns : Nat → Int} (h : ∀ j, Wd (ns j)) (w : World) : (Op.equal 28 (.agg (wvs ns 2).toArray) (.agg (wvs ns 2).toArray)).run Tryz.prog w = .ok true w := wvs_eq (m := 2) (by kernel_rfl) (by kernel_rfl) (by kernel_rfl) (by kernel_rfl) (by kernel_rfl) (fun j _ => h j) (fun j _ => h j) (by simp) w
theorem eq_bu {n : Int} (h : Wd n) (w : World) : (Op.equal 27 (.agg (wv n).toArray) (.agg (wv n).toArray)).run Tryz.prog w = .ok true w := by
  have := weq n n ⟨h, h⟩ w
  simpa using this
section
variable {l : TL} {mm T' : Nat} {x y : Operand}
theorem Qv.nePu {ns : Nat → Int} (hx : ev l x = some (.agg (wvs ns 16).toArray)) (hy : ev l y = some (.agg (wvs ns 16).toArray)) (h : ∀ j, Wd (ns j)) : Qv Tryz.prog mm l (.binOp .neq 36 x y T') (.bool false) := Qv.neqA (r := true) hx hy (by kernel_rfl) (fun w => eq_pu h w)
theorem Qv.neHe {ns : Nat → Int} (hx : ev l x = some (.agg (wvs ns 2).toArray)) (hy : ev l y = some (.agg (wvs ns 2).toArray)) (h : ∀ j, Wd (ns j)) : Qv Tryz.prog mm l (.binOp .neq 28 x y T') (.bool false) := Qv.neqA (r := true) hx hy (by kernel_rfl) (fun w => eq_he h w)
theorem Qv.neNo {ns : Nat → Int} (hx : ev l x = some (.agg (ncell ns).toArray)) (hy : ev l y = some (.agg (ncell ns).toArray)) (h : ∀ j, I64 (ns j)) : Qv Tryz.prog mm l (.binOp .neq 31 x y T') (.bool false) := Qv.neqA (r := true) hx hy (by kernel_rfl) (fun w => eq_no h w)
theorem Qv.neBu {n : Int} (hx : ev l x = some (.agg (wv n).toArray)) (hy : ev l y = some (.agg (wv n).toArray)) (h : Wd n) : Qv Tryz.prog mm l (.binOp .neq 27 x y T') (.bool false) := Qv.neqA (r := true) hx hy (by kernel_rfl) (fun w => eq_bu h w)
theorem Qv.neLk {k : Lk} (hx : ev l x = some (.agg (k.cells).toArray)) (hy : ev l y = some (.agg (k.cells).toArray)) (h : LkIn k) : Qv Tryz.prog mm l (.binOp .neq 99 x y T') (.bool false) := Qv.neqA (r := true) hx hy (by kernel_rfl) (fun w => eq_lk h w)
end
theorem same_ (s : SS) (ao ao2 : Option Addr) (cap cap2 : Nat) (L : List Lk) (w : World) (hw : (Rd w ao (lcs L) ∧ Rd w ao2 (lcs L)) ∧ SIn s ∧ LIn L ∧ L.length ≤ maxLen) : CSpec Tryz.prog 17 [.agg (s.cells (.slice ao L.length cap)).toArray, .agg (s.cells (.slice ao2 L.length cap2)).toArray] [] w (Gives (.bool true)) := by
  obtain ⟨⟨hr, hr2⟩, hs, hL, hm⟩ := hw
  have hm9 : L.length ≤ 9223372036854775807 := by unfold maxLen at hm; omega
  have hao : 0 < L.length → ao.isSome = true := fun h => hr.isSome fun e => by
    have h8 := lcs_length L
    rw [e] at h8
    simp at h8
    omega
  have hao2 : 0 < L.length → ao2.isSome = true := fun h => hr2.isSome fun e => by
    have h8 := lcs_length L
    rw [e] at h8
    simp at h8
    omega
  refine spec_own0 Tryz.func17 rfl Tryz.ntmps17 rfl (l0 := [(0, .agg (s.cells (.slice ao L.length cap)).toArray), (1, .agg (s.cells (.slice ao2 L.length cap2)).toArray)]) rfl ?_
  repeat' first
    | (refine J.qv ?_; (with_reducible apply exq); focus (first
      | ((with_reducible apply Qv.nePu); exact rfl; exact rfl; with_reducible first | exact hs.pu | exact hs.va | exact hs.no | exact hs.he | exact hs.bu | exact hL.get _)
      | ((with_reducible apply Qv.neHe); exact rfl; exact rfl; with_reducible first | exact hs.pu | exact hs.va | exact hs.no | exact hs.he | exact hs.bu | exact hL.get _)
      | ((with_reducible apply Qv.neNo); exact rfl; exact rfl; with_reducible first | exact hs.pu | exact hs.va | exact hs.no | exact hs.he | exact hs.bu | exact hL.get _)
      | ((with_reducible apply Qv.neBu); exact rfl; exact rfl; with_reducible first | exact hs.pu | exact hs.va | exact hs.no | exact hs.he | exact hs.bu | exact hL.get _)
      | ((with_reducible apply Qv.neLk); exact rfl; exact rfl; with_reducible first | exact hs.pu | exact hs.va | exact hs.no | exact hs.he | exact hs.bu | exact hL.get _)))
    | (refine J.qr ?_; (with_reducible apply exq); focus (first
      | ((with_reducible apply Qr.ldLv); exact rfl; (focus ((repeat (first | with_reducible exact In.here | with_reducible apply In.there)); done)))
      | ((with_reducible apply Qr.ldPu); exact rfl; (focus ((repeat (first | with_reducible exact In.here | with_reducible apply In.there)); done)))
      | ((with_reducible apply Qr.ldVa); exact rfl; (focus ((repeat (first | with_reducible exact In.here | with_reducible apply In.there)); done)))
      | ((with_reducible apply Qr.ldBu); exact rfl; (focus ((repeat (first | with_reducible exact In.here | with_reducible apply In.there)); done)))
      | ((with_reducible apply Qr.ldTime); exact rfl; (focus ((repeat (first | with_reducible exact In.here | with_reducible apply In.there)); done)))
      | ((with_reducible apply Qr.ldSide); exact rfl; (focus ((repeat (first | with_reducible exact In.here | with_reducible apply In.there)); done)))
      | ((with_reducible apply Qr.ldNoW); exact rfl; (focus ((repeat (first | with_reducible exact In.here | with_reducible apply In.there)); done)))
      | ((with_reducible apply Qr.ldHeW); exact rfl; (focus ((repeat (first | with_reducible exact In.here | with_reducible apply In.there)); done)))))
    | (refine J.qo ?_; refine ⟨?_, ?_⟩; focus (first
      | ((with_reducible apply Qr.ldLv); exact rfl; (focus ((repeat (first | with_reducible exact In.here | with_reducible apply In.there)); done)))
      | ((with_reducible apply Qr.ldPu); exact rfl; (focus ((repeat (first | with_reducible exact In.here | with_reducible apply In.there)); done)))
      | ((with_reducible apply Qr.ldVa); exact rfl; (focus ((repeat (first | with_reducible exact In.here | with_reducible apply In.there)); done)))
      | ((with_reducible apply Qr.ldBu); exact rfl; (focus ((repeat (first | with_reducible exact In.here | with_reducible apply In.there)); done)))
      | ((with_reducible apply Qr.ldTime); exact rfl; (focus ((repeat (first | with_reducible exact In.here | with_reducible apply In.there)); done)))
      | ((with_reducible apply Qr.ldSide); exact rfl; (focus ((repeat (first | with_reducible exact In.here | with_reducible apply In.there)); done)))
      | ((with_reducible apply Qr.ldNoW); exact rfl; (focus ((repeat (first | with_reducible exact In.here | with_reducible apply In.there)); done)))
      | ((with_reducible apply Qr.ldHeW); exact rfl; (focus ((repeat (first | with_reducible exact In.here | with_reducible apply In.there)); done)))))
    | refine J.one ?_
    | refine J.loudS ?_
    | (refine J.loudQ ?_; intro _ _)
    | (refine J.loudB ?_; intro _)
    | (with_reducible apply J.list)
    | ((with_reducible apply J.draw (id := 6) [0, 1, 0, 7, 15, 0, 32, 0, 224, 480, 1023] (.p 0 (.q 1 (.p 2 (.p 3 (.q 4 (.p 5 (.q 6 (.p 7 (.p 8 (.q 9 (.p 10 .nil))))))))))) (by kernel_rfl) ?_ (by kernel_rfl) ?_); (repeat (with_reducible first | exact PanicFree.body | exact PanicFree.np | exact PanicFree.lvS | apply PanicFree.then_ | apply PanicFree.blk)))
    | ((with_reducible apply J.pl2); exact rfl; (first | exact Gd.none | ((with_reducible apply Gd.on); exact rfl; exact rfl)); (first | exact pend_au | fail))
    | ((with_reducible apply J.pl2_off); exact rfl; ((with_reducible apply Gd.off); exact rfl; exact rfl; exact rfl); exact rfl; (first | exact pend_au | fail))
    | ((with_reducible apply J.pl2_off_none); exact rfl; ((with_reducible apply Gd.off); exact rfl; exact rfl; exact rfl); (first | exact pend_au | fail))
    | ((with_reducible first | apply J.psplit0 | apply J.psplit1 | apply J.psplit2); exact rfl; exact rfl; exact rfl)
    | (with_reducible exact J.pl_none)
    | ((with_reducible apply J.gsplit); exact rfl; exact rfl)
    | ((with_reducible first | apply J.cond | apply JC.cond); exact rfl)
    | (intro h; exfalso; (first | (simp at h; done) | omega))
    | (intro h; (try simp only [decide_eq_true_eq, decide_eq_false_iff_not, beq_iff_eq, beq_eq_false_iff_ne, Bool.not_eq_true', Bool.not_eq_false', bne_iff_ne, bne_eq_false_iff_eq, ne_eq, ge_iff_le, gt_iff_lt] at h))
    | (with_reducible apply J.gave')
    | ((with_reducible apply J.kept'); rotate_left; (first | exact outs_au | fail))
  rename_i b2 b3 _ _
  apply J.loopI (σ := Nat) (I := fun k => k ≤ L.length) (L := fun k => [(2, .pointer (some ⟨b2, 0, none⟩)), (3, .pointer (some ⟨b3, 0, none⟩)), (5, .int .i64 (k : Int))]) (HH := fun k => [blk b2 (s.cells (.slice ao L.length cap)) 39, blk b3 (s.cells (.slice ao2 L.length cap2)) 39]) (m := fun k => L.length - k) (s0 := 0)
  · ((try dsimp only); omega)
  · ((try dsimp only); repeat (first | exact sub.nil _ | (refine sub.consE rfl ?_ ?_; (first | with_reducible rfl | (fail) | rfl))))
  · ((try dsimp only); (first | exact outs_au | fail))
  rintro k hI
  try dsimp only at hI ⊢
  repeat' first
    | (refine J.qv ?_; (with_reducible apply exq); focus (first
      | ((with_reducible apply Qv.nePu); exact rfl; exact rfl; with_reducible first | exact hs.pu | exact hs.va | exact hs.no | exact hs.he | exact hs.bu | exact hL.get _)
      | ((with_reducible apply Qv.neHe); exact rfl; exact rfl; with_reducible first | exact hs.pu | exact hs.va | exact hs.no | exact hs.he | exact hs.bu | exact hL.get _)
      | ((with_reducible apply Qv.neNo); exact rfl; exact rfl; with_reducible first | exact hs.pu | exact hs.va | exact hs.no | exact hs.he | exact hs.bu | exact hL.get _)
      | ((with_reducible apply Qv.neBu); exact rfl; exact rfl; with_reducible first | exact hs.pu | exact hs.va | exact hs.no | exact hs.he | exact hs.bu | exact hL.get _)
      | ((with_reducible apply Qv.neLk); exact rfl; exact rfl; with_reducible first | exact hs.pu | exact hs.va | exact hs.no | exact hs.he | exact hs.bu | exact hL.get _)
      | ((with_reducible apply Qv.indexSrcs (k := k)); exact rfl; exact rfl; (focus omega); (focus omega); exact hao (by omega))
      | ((with_reducible apply Qv.indexSrcs (k := k)); exact rfl; exact rfl; (focus omega); (focus omega); exact hao2 (by omega))))
    | (refine J.qr ?_; (with_reducible apply exq); focus (first
      | ((with_reducible apply Qr.ldLv); exact rfl; (focus ((repeat (first | with_reducible exact In.here | with_reducible apply In.there)); done)))
      | ((with_reducible apply Qr.rdN (C := lcs L) (j := k * 3) (cs := (L.getD k lk0).cells)); exact rfl; exact RH.old hr; exact lcs_at (by omega); exact rfl)
      | ((with_reducible apply Qr.rdN (C := lcs L) (j := k * 3) (cs := (L.getD k lk0).cells)); exact rfl; exact RH.old hr2; exact lcs_at (by omega); exact rfl)))
    | (refine J.qo ?_; refine ⟨?_, ?_⟩; focus (first
      | ((with_reducible apply Qr.ldLv); exact rfl; (focus ((repeat (first | with_reducible exact In.here | with_reducible apply In.there)); done)))
      | ((with_reducible apply Qr.rdN (C := lcs L) (j := k * 3) (cs := (L.getD k lk0).cells)); exact rfl; exact RH.old hr; exact lcs_at (by omega); exact rfl)
      | ((with_reducible apply Qr.rdN (C := lcs L) (j := k * 3) (cs := (L.getD k lk0).cells)); exact rfl; exact RH.old hr2; exact lcs_at (by omega); exact rfl)))
    | refine J.one ?_
    | refine J.loudS ?_
    | (refine J.loudQ ?_; intro _ _)
    | (refine J.loudB ?_; intro _)
    | (with_reducible apply J.list)
    | ((with_reducible apply J.draw (id := 6) [0, 1, 0, 7, 15, 0, 32, 0, 224, 480, 1023] (.p 0 (.q 1 (.p 2 (.p 3 (.q 4 (.p 5 (.q 6 (.p 7 (.p 8 (.q 9 (.p 10 .nil))))))))))) (by kernel_rfl) ?_ (by kernel_rfl) ?_); (repeat (with_reducible first | exact PanicFree.body | exact PanicFree.np | exact PanicFree.lvS | apply PanicFree.then_ | apply PanicFree.blk)))
    | ((with_reducible apply J.pl2); exact rfl; (first | exact Gd.none | ((with_reducible apply Gd.on); exact rfl; exact rfl)); (first | exact pend_au | fail))
    | ((with_reducible apply J.pl2_off); exact rfl; ((with_reducible apply Gd.off); exact rfl; exact rfl; exact rfl); exact rfl; (first | exact pend_au | fail))
    | ((with_reducible apply J.pl2_off_none); exact rfl; ((with_reducible apply Gd.off); exact rfl; exact rfl; exact rfl); (first | exact pend_au | fail))
    | ((with_reducible first | apply J.psplit0 | apply J.psplit1 | apply J.psplit2); exact rfl; exact rfl; exact rfl)
    | (with_reducible exact J.pl_none)
    | ((with_reducible apply J.gsplit); exact rfl; exact rfl)
    | ((with_reducible first | apply J.cond | apply JC.cond); exact rfl)
    | (intro h; exfalso; (first | (simp at h; done) | omega))
    | (intro h; (try simp only [decide_eq_true_eq, decide_eq_false_iff_not, beq_iff_eq, beq_eq_false_iff_ne, Bool.not_eq_true', Bool.not_eq_false', bne_iff_ne, bne_eq_false_iff_eq, ne_eq, ge_iff_le, gt_iff_lt] at h))
    | (with_reducible apply J.gave')
    | ((with_reducible apply J.kept'); rotate_left; (first | exact outs_au | fail))
  all_goals first
    | rfl
    | (apply J.againI (s := k) (s' := (k + 1)); (focus (omega)); (focus ((try dsimp only); omega)); (focus (((try dsimp only); repeat (first | exact sub.nil _ | (refine sub.consE rfl ?_ ?_; (first | with_reducible rfl | ((focus (congr 1; omega))) | rfl)))))); ((try dsimp only); (first | exact outs_au | fail)))
    | (trace_state; fail)
end Go.Proofs.YtljbedladifgmaaGreat.Sam
