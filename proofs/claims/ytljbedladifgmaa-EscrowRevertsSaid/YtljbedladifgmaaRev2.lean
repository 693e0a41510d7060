/-
  The law EscrowReverts, joined. No conditions.
-/
import Derived.Test.YtljbedladifgmaaAlv
import Derived.Test.YtljbedladifgmaaRef
namespace Go.Proofs.Ytljbedladifgmaa.Rev
open Go Go.RowKit Eng
set_option linter.unusedVariables false
set_option maxRecDepth 100000
set_option linter.unusedSimpArgs false
open Wide Purse Tx Sha Ss Esc Vau Lck Do Prep Ful Doo Tri App Inn Low Gene Pln Plx Sam Alv Deal Mss Ots Hash Bytes
set_option maxHeartbeats 1000000
/-- One coin less. -/
def pu1 (s : SS) (t : Tx) : Nat → Int := upd s.pu (2 * t.fr.toNat) (wsub (s.pu (2 * t.fr.toNat)) 1)
def s1G (s : SS) (t : Tx) : SS := SS.wNo (SS.wBu (SS.wPu s (pu1 s t)) (wadd s.bu 1)) t.fr.toNat (s.no t.fr.toNat + 1)
theorem tk_eq {s : SS} {t : Tx} (h : (tkR s.pu t.fr 0 1).2 = 0) : (tkR s.pu t.fr 0 1).1 = pu1 s t ∧ 1 ≤ s.pu (2 * t.fr.toNat) := by
  unfold tkR at h ⊢
  split at h
  · rename_i h1
    split at h
    · rename_i h2
      rw [if_pos h1, if_pos h2]
      have h3 : 1 ≤ s.pu (2 * t.fr.toNat) := h2
      refine ⟨?_, h3⟩
      unfold pu1 wsub
      rw [if_pos h3]
      rfl
    · exact absurd h (by show ¬ (30 : Int) = 0; decide)
  · exact absurd h (by show ¬ (4 : Int) = 0; decide)
theorem s1_eq {s : SS} {t : Tx} (h : (tkR s.pu t.fr 0 1).2 = 0) : s1F s t = s1G s t := by
  unfold s1F s1G
  rw [(tk_eq h).1]
  rfl
theorem vaultV_no (s : SS) (a i x : Int) : (vaultV s a i x).2.no = s.no := rfl
theorem bindE_keep {x : Int × SS} {f : SS → Int × SS} {n : Nat → Int} (h1 : x.2.no = n) (h2 : ∀ s : SS, s.no = n → (f s).2.no = n) : (bindE x f).2.no = n := by
  unfold bindE
  split
  · exact h2 _ h1
  · exact h1
/-- Whatever is done leaves the nonces. -/
theorem doX_no (s : SS) (L : List Lk) (t : Tx) : (doX s L t).2.no = s.no := by
  unfold doX
  split
  · rfl
  split
  · exact bindE_keep rfl fun s h => bindE_keep h fun s h => h
  split
  · unfold drawX
    split
    · exact bindE_keep rfl fun s h => bindE_keep h fun s h => h
    · rfl
  split
  · unfold prepX
    repeat' split
    all_goals first
      | rfl
      | exact bindE_keep rfl fun s h => h
  split
  · unfold fulX
    repeat' split
    all_goals first
      | rfl
      | exact bindE_keep rfl fun s h => bindE_keep h fun s h => h
  split
  · unfold canX
    repeat' split
    all_goals first
      | rfl
      | exact bindE_keep rfl fun s h => h
  · rfl
/-- What can come of a transaction. -/
theorem ap_cases {s : SS} {L : List Lk} {t : Tx} : (∃ e, apF s L t = ⟨s, L, e, false⟩ ∧ e ≠ 0) ∨ (chk t = 0 ∧ t.no = s.no t.fr.toNat ∧ (tkR s.pu t.fr 0 1).2 = 0 ∧ s.bu + 1 < 115792089237316195423570985008687907853269984665640564039457584007913129639936 ∧ ((∃ n L', apF s L t = ⟨n, L', 0, true⟩ ∧ n.no t.fr.toNat = s.no t.fr.toNat + 1) ∨ ∃ e, apF s L t = ⟨s1G s t, L, e, true⟩ ∧ e ≠ 0)) := by
  unfold apF
  split
  · rename_i h1
    split
    · rename_i h2
      split
      · rename_i h3
        refine .inr ⟨h1, h2, h3.1, h3.2, ?_⟩
        split
        · refine .inl ⟨_, _, rfl, ?_⟩
          rw [doX_no]
          show upd _ _ _ _ = _
          unfold upd
          rw [if_pos rfl]
          rfl
        · rename_i h4
          exact .inr ⟨_, by rw [s1_eq h3.1], by rw [← s1_eq h3.1]; exact h4⟩
      · exact .inl ⟨21, rfl, by decide⟩
    · exact .inl ⟨20, rfl, by decide⟩
  · rename_i h1
    exact .inl ⟨_, rfl, h1⟩
section
variable {P : Program} {c : Cx} {l : TL} {H : List Asrt} {Q : Exit → Act → World → Prop} {X : Act → World → Prop}
variable {ty : TypeId} {pos : String} {af : Array Edge} {d : Nat} {v : Value} {dst : Option Tmp} {mm : Nat}
theorem J.wPuI {T : Nat} {z : List Value} [i : Ty P T true 4 z] {x y : Operand} {b : Nat} {s : SS} {lv : Value} {E : TypeId} {H' : List Asrt} {o k : Nat} {p : Int} (hx : ev l x = some (.pointer (some ⟨b, o, none⟩))) (ho : o = 2 + k * 4) (hk : k < 16) (hy : ev l y = some (.agg (wv p).toArray)) (hu : Upd (blk b (s.cells lv) E) (blk b (SS.cells (SS.wPu s (upd s.pu k p)) lv) E) H H') (K : J c l H' X) : J c l H (OW P Q ⟨none, .store T x y, ty, pos, af, none⟩ X) := J.stPuI hx ho hk hy hu K
end
theorem sideS_in {s : SS} (h : SIn s) : SIn (sideS s) := ⟨by
  show I64 (if s.side = 1 then 1 else 0)
  split <;> exact i64_of (by decide) (by decide), by
  show I64 (if s.time < 0 ∨ 1099511627776 < s.time then 0 else s.time)
  split
  · exact i64_of (by decide) (by decide)
  · exact h.time, h.pu, h.va, h.no, h.he, h.bu⟩
theorem sideS_ok {s : SS} (h : SIn s) : SOk (sideS s) := ⟨h.pu, h.va, h.he, h.bu, by
  show 0 ≤ (if s.time < 0 ∨ 1099511627776 < s.time then 0 else s.time)
  split <;> omega, by
  show (if s.time < 0 ∨ 1099511627776 < s.time then 0 else s.time) ≤ _
  split <;> omega⟩
theorem pu1_wd {s : SS} {t : Tx} (h : ∀ j, Wd (s.pu j)) (j : Nat) : Wd (pu1 s t j) := by
  unfold pu1 upd
  split
  · exact wsub_any _ _ (h _) (wd_n (by decide) (by decide))
  · exact h j
theorem s1G_in {s : SS} {t : Tx} (h : SIn s) (hc : chk t = 0) (hn : t.no = s.no t.fr.toNat) : SIn (s1G s t) := ⟨h.side, h.time, pu1_wd h.pu, h.va, fun j => by
  show I64 (upd s.no _ _ j)
  unfold upd
  split
  · have := chk_no hc
    exact i64_of (by omega) (by omega)
  · exact h.no j, h.he, wadd_any _ _ h.bu (wd_n (by decide) (by decide))⟩
theorem side_c (s0 s : SS) (h : sideS s0 = s) (ao : Option Addr) (n cap : Nat) (w : World) : CSpec Try.prog 7 [.agg (s0.cells (.slice ao n cap)).toArray] [] w (Gives (.agg (s.cells (.slice ao n cap)).toArray)) := h ▸ side_ s0 _ ⟨ao, n, cap, rfl⟩ w
theorem rev_a (s0 s : SS) (ao : Option Addr) (cap : Nat) (L : List Lk) (t : Tx) (e : Int) (hap : apF s L t = ⟨s, L, e, false⟩) (he : e ≠ 0) (w : World) (hw : Rd w ao (lcs L) ∧ SIn s ∧ SOk s ∧ LIn L ∧ TIn t ∧ sideS s0 = s ∧ L.length + 1 ≤ maxLen ∧ (L.length + 1) * 40 ≤ 140737488355328) : CSpec Try.prog 3 [.agg (s0.cells (.slice ao L.length cap)).toArray, .agg t.cells.toArray] [] w (Gives (.bool true)) := by
  obtain ⟨hr, hi, hs, hL, ht, hsd, hm1, hb⟩ := hw
  have hm : L.length ≤ maxLen := by omega
  have hb2 : L.length * 40 ≤ 140737488355328 := by omega
  refine spec_own0 Try.func3 rfl Try.ntmps3 rfl (l0 := [(0, .agg (s0.cells (.slice ao L.length cap)).toArray), (1, .agg t.cells.toArray)]) rfl ?_
  repeat' first
    | (refine J.qr ?_; (with_reducible apply exq); focus (first
      | ((with_reducible apply Qr.loadFull); exact rfl; (focus ((repeat (first | with_reducible exact In.here | with_reducible apply In.there)); done)); (first | (with_reducible first | exact SS.len _ _ | exact wv_length _) | exact rfl))))
    | (refine J.qo ?_; refine ⟨?_, ?_⟩; focus (first
      | ((with_reducible apply Qr.loadFull); exact rfl; (focus ((repeat (first | with_reducible exact In.here | with_reducible apply In.there)); done)); (first | (with_reducible first | exact SS.len _ _ | exact wv_length _) | exact rfl))))
    | ((with_reducible apply J.storeFull); exact rfl; exact rfl; (repeat (first | with_reducible exact Upd.here | with_reducible apply Upd.there)); (with_reducible exact SS.len _ _); (focus (first | (with_reducible exact SS.len _ _) | kernel_rfl)); with_reducible exact SS.ones _ _ _ _)
    | ((with_reducible apply J.givesW (alive12)); exact rfl; exact rfl)
    | ((with_reducible apply J.givesW (side_c s0 s hsd _ _ _)); exact rfl; exact rfl)
    | ((with_reducible apply J.apE (apply_c s _ _ L t _ hap)); exact rfl; exact rfl; (exact RH.and (RH.old hr) (RH.of ⟨hs, ht, hm1, hb⟩)); intro q9 hq9; (try dsimp only))
    | ((with_reducible apply J.stV (plain_ s _ _ L)); exact rfl; exact rfl; (first | exact RH.and (RH.row (by (repeat (first | with_reducible exact In.here | with_reducible apply In.there)))) (RH.of ⟨hm, hb2⟩) | exact RH.and (RH.old hr) (RH.of ⟨hm, hb2⟩)); intro _ _)
    | ((with_reducible apply J.givesR (same_ s _ _ _ _ L)); exact rfl; exact rfl; (focus (exact RH.and (RH.and (RH.row (by (repeat (first | with_reducible exact In.here | with_reducible apply In.there)))) (RH.row (by (repeat (first | with_reducible exact In.here | with_reducible apply In.there))))) (RH.of ⟨hi, hL, hm⟩))))
    | refine J.one ?_
    | refine J.loudS ?_
    | (refine J.loudQ ?_; intro _ _)
    | (refine J.loudB ?_; intro _)
    | (with_reducible apply J.list)
    | ((with_reducible apply J.draw (id := 6) [0, 1, 3, 7, 15, 7, 63, 127, 255, 511] (.p 0 (.p 1 (.p 2 (.q 3 (.q 5 (.x 4 (.x 6 (.x 7 (.p 8 (.p 9 .nil)) .none) .none) .none)))))) (by kernel_rfl) ?_ (by kernel_rfl) ?_); (repeat (with_reducible first | exact PanicFree.body | exact PanicFree.np | exact PanicFree.lvS | apply PanicFree.then_ | apply PanicFree.blk)))
    | ((with_reducible apply J.draw (id := 8) [0, 1, 0, 7, 15, 0, 32, 0, 224, 480, 1023, 2047, 4095] (.p 0 (.q 1 (.p 2 (.p 3 (.q 4 (.p 5 (.q 6 (.p 7 (.p 8 (.q 9 (.p 10 (.p 11 (.p 12 .nil))))))))))))) (by kernel_rfl) ?_ (by kernel_rfl) ?_); (repeat (with_reducible first | exact PanicFree.body | exact PanicFree.np | exact PanicFree.lvS | apply PanicFree.then_ | apply PanicFree.blk)))
    | ((with_reducible apply J.draw (id := 12) [0, 1, 3, 0, 0, 0, 47, 111, 255, 511] (.p 0 (.q 1 (.p 2 (.q 3 (.q 4 (.p 5 (.p 6 (.x 7 (.p 8 (.x 9 .nil .none)) .none)))))))) (by kernel_rfl) ?_ (by kernel_rfl) ?_); (repeat (with_reducible first | exact PanicFree.body | exact PanicFree.np | exact PanicFree.lvS | apply PanicFree.then_ | apply PanicFree.blk)))
    | ((with_reducible apply J.draw (id := 14) [0, 1, 3, 7, 15, 31, 63, 31, 255, 511, 1023] (.p 0 (.p 1 (.p 2 (.p 3 (.p 4 (.q 5 (.q 7 (.x 6 (.x 8 (.p 9 (.p 10 .nil)) .none) .none)))))))) (by kernel_rfl) ?_ (by kernel_rfl) ?_); (repeat (with_reducible first | exact PanicFree.body | exact PanicFree.np | exact PanicFree.lvS | apply PanicFree.then_ | apply PanicFree.blk)))
    | ((with_reducible apply J.pl2); exact rfl; (first | exact Gd.none | ((with_reducible apply Gd.on); exact rfl; exact rfl)); (repeat (first | (with_reducible exact PendF.nil) | ((with_reducible apply PendF.keep); exact rfl) | ((with_reducible apply PendF.gone); exact rfl))))
    | ((with_reducible apply J.pl2_off); exact rfl; ((with_reducible apply Gd.off); exact rfl; exact rfl; exact rfl); exact rfl; (repeat (first | (with_reducible exact PendF.nil) | ((with_reducible apply PendF.keep); exact rfl) | ((with_reducible apply PendF.gone); exact rfl))))
    | ((with_reducible apply J.pl2_off_none); exact rfl; ((with_reducible apply Gd.off); exact rfl; exact rfl; exact rfl); (repeat (first | (with_reducible exact PendF.nil) | ((with_reducible apply PendF.keep); exact rfl) | ((with_reducible apply PendF.gone); exact rfl))))
    | ((with_reducible first | apply J.psplit0 | apply J.psplit1 | apply J.psplit2); exact rfl; exact rfl; exact rfl)
    | (with_reducible exact J.pl_none)
    | ((with_reducible apply J.gsplit); exact rfl; exact rfl)
    | ((with_reducible first | apply J.cond | apply JC.cond); exact rfl)
    | (intro h; exfalso; (first | (simp at h; done) | (simp at h; omega) | omega))
    | (intro h; (try simp only [decide_eq_true_eq, decide_eq_false_iff_not, beq_iff_eq, beq_eq_false_iff_ne, Bool.not_eq_true', Bool.not_eq_false', bne_iff_ne, bne_eq_false_iff_eq, ne_eq, ge_iff_le, gt_iff_lt] at h))
    | (with_reducible apply J.gave')
    | ((with_reducible apply J.kept'); rotate_left; (repeat (first | (with_reducible exact Outs.nil) | ((with_reducible apply Outs.cons); (repeat (first | with_reducible exact Out.here | with_reducible apply Out.there))))))
  all_goals
    first
    | rfl
    | (trace_state; fail)
theorem rev_b (s0 s : SS) (ao : Option Addr) (cap : Nat) (L : List Lk) (t : Tx) (n : SS) (L' : List Lk) (hap : apF s L t = ⟨n, L', 0, true⟩) (hn : n.no t.fr.toNat = s.no t.fr.toNat + 1) (hc : chk t = 0) (hno : t.no = s.no t.fr.toNat) (w : World) (hw : Rd w ao (lcs L) ∧ SIn s ∧ SOk s ∧ LIn L ∧ TIn t ∧ sideS s0 = s ∧ L.length + 1 ≤ maxLen ∧ (L.length + 1) * 40 ≤ 140737488355328) : CSpec Try.prog 3 [.agg (s0.cells (.slice ao L.length cap)).toArray, .agg t.cells.toArray] [] w (Gives (.bool true)) := by
  obtain ⟨hr, hi, hs, hL, ht, hsd, hm1, hb⟩ := hw
  have hm : L.length ≤ maxLen := by omega
  have hb2 : L.length * 40 ≤ 140737488355328 := by omega
  refine spec_own0 Try.func3 rfl Try.ntmps3 rfl (l0 := [(0, .agg (s0.cells (.slice ao L.length cap)).toArray), (1, .agg t.cells.toArray)]) rfl ?_
  repeat' first
    | (refine J.qv ?_; (with_reducible apply exq); focus (first
      | ((with_reducible apply Qv.idxNo); exact rfl; exact rfl; (have h7 := chk_fr hc; constructor <;> omega))
      | ((with_reducible apply Qv.sub); exact rfl; exact rfl; exact wr64 (by have h7 := chk_no hc; omega) (by have h7 := chk_no hc; omega) rfl)))
    | (refine J.qr ?_; (with_reducible apply exq); focus (first
      | ((with_reducible apply Qr.ldNo); exact rfl; (focus ((repeat (first | with_reducible exact In.here | with_reducible apply In.there)); done)); (have h7 := chk_fr hc; omega))
      | ((with_reducible apply Qr.loadFull); exact rfl; (focus ((repeat (first | with_reducible exact In.here | with_reducible apply In.there)); done)); (first | (with_reducible first | exact SS.len _ _ | exact wv_length _) | exact rfl))))
    | (refine J.qo ?_; refine ⟨?_, ?_⟩; focus (first
      | ((with_reducible apply Qr.ldNo); exact rfl; (focus ((repeat (first | with_reducible exact In.here | with_reducible apply In.there)); done)); (have h7 := chk_fr hc; omega))
      | ((with_reducible apply Qr.loadFull); exact rfl; (focus ((repeat (first | with_reducible exact In.here | with_reducible apply In.there)); done)); (first | (with_reducible first | exact SS.len _ _ | exact wv_length _) | exact rfl))))
    | ((with_reducible apply J.storeFull); exact rfl; exact rfl; (repeat (first | with_reducible exact Upd.here | with_reducible apply Upd.there)); (with_reducible exact SS.len _ _); (focus (first | (with_reducible exact SS.len _ _) | kernel_rfl)); with_reducible exact SS.ones _ _ _ _)
    | ((with_reducible apply J.givesW (alive12)); exact rfl; exact rfl)
    | ((with_reducible apply J.givesW (side_c s0 s hsd _ _ _)); exact rfl; exact rfl)
    | ((with_reducible apply J.apE (apply_c s _ _ L t _ hap)); exact rfl; exact rfl; (exact RH.and (RH.old hr) (RH.of ⟨hs, ht, hm1, hb⟩)); intro q9 hq9; (try dsimp only))
    | refine J.one ?_
    | refine J.loudS ?_
    | (refine J.loudQ ?_; intro _ _)
    | (refine J.loudB ?_; intro _)
    | (with_reducible apply J.list)
    | ((with_reducible apply J.draw (id := 6) [0, 1, 3, 7, 15, 7, 63, 127, 255, 511] (.p 0 (.p 1 (.p 2 (.q 3 (.q 5 (.x 4 (.x 6 (.x 7 (.p 8 (.p 9 .nil)) .none) .none) .none)))))) (by kernel_rfl) ?_ (by kernel_rfl) ?_); (repeat (with_reducible first | exact PanicFree.body | exact PanicFree.np | exact PanicFree.lvS | apply PanicFree.then_ | apply PanicFree.blk)))
    | ((with_reducible apply J.draw (id := 8) [0, 1, 0, 7, 15, 0, 32, 0, 224, 480, 1023, 2047, 4095] (.p 0 (.q 1 (.p 2 (.p 3 (.q 4 (.p 5 (.q 6 (.p 7 (.p 8 (.q 9 (.p 10 (.p 11 (.p 12 .nil))))))))))))) (by kernel_rfl) ?_ (by kernel_rfl) ?_); (repeat (with_reducible first | exact PanicFree.body | exact PanicFree.np | exact PanicFree.lvS | apply PanicFree.then_ | apply PanicFree.blk)))
    | ((with_reducible apply J.draw (id := 12) [0, 1, 3, 0, 0, 0, 47, 111, 255, 511] (.p 0 (.q 1 (.p 2 (.q 3 (.q 4 (.p 5 (.p 6 (.x 7 (.p 8 (.x 9 .nil .none)) .none)))))))) (by kernel_rfl) ?_ (by kernel_rfl) ?_); (repeat (with_reducible first | exact PanicFree.body | exact PanicFree.np | exact PanicFree.lvS | apply PanicFree.then_ | apply PanicFree.blk)))
    | ((with_reducible apply J.draw (id := 14) [0, 1, 3, 7, 15, 31, 63, 31, 255, 511, 1023] (.p 0 (.p 1 (.p 2 (.p 3 (.p 4 (.q 5 (.q 7 (.x 6 (.x 8 (.p 9 (.p 10 .nil)) .none) .none)))))))) (by kernel_rfl) ?_ (by kernel_rfl) ?_); (repeat (with_reducible first | exact PanicFree.body | exact PanicFree.np | exact PanicFree.lvS | apply PanicFree.then_ | apply PanicFree.blk)))
    | ((with_reducible apply J.pl2); exact rfl; (first | exact Gd.none | ((with_reducible apply Gd.on); exact rfl; exact rfl)); (repeat (first | (with_reducible exact PendF.nil) | ((with_reducible apply PendF.keep); exact rfl) | ((with_reducible apply PendF.gone); exact rfl))))
    | ((with_reducible apply J.pl2_off); exact rfl; ((with_reducible apply Gd.off); exact rfl; exact rfl; exact rfl); exact rfl; (repeat (first | (with_reducible exact PendF.nil) | ((with_reducible apply PendF.keep); exact rfl) | ((with_reducible apply PendF.gone); exact rfl))))
    | ((with_reducible apply J.pl2_off_none); exact rfl; ((with_reducible apply Gd.off); exact rfl; exact rfl; exact rfl); (repeat (first | (with_reducible exact PendF.nil) | ((with_reducible apply PendF.keep); exact rfl) | ((with_reducible apply PendF.gone); exact rfl))))
    | ((with_reducible first | apply J.psplit0 | apply J.psplit1 | apply J.psplit2); exact rfl; exact rfl; exact rfl)
    | (with_reducible exact J.pl_none)
    | ((with_reducible apply J.gsplit); exact rfl; exact rfl)
    | ((with_reducible first | apply J.cond | apply JC.cond); exact rfl)
    | (intro h; exfalso; (first | (simp at h; done) | (simp at h; omega) | omega))
    | (intro h; (try simp only [decide_eq_true_eq, decide_eq_false_iff_not, beq_iff_eq, beq_eq_false_iff_ne, Bool.not_eq_true', Bool.not_eq_false', bne_iff_ne, bne_eq_false_iff_eq, ne_eq, ge_iff_le, gt_iff_lt] at h))
    | (with_reducible apply J.gave')
    | ((with_reducible apply J.kept'); rotate_left; (repeat (first | (with_reducible exact Outs.nil) | ((with_reducible apply Outs.cons); (repeat (first | with_reducible exact Out.here | with_reducible apply Out.there))))))
  all_goals
    first
    | rfl
    | (simp only [retv]; simp; omega)
    | (trace_state; fail)
end Go.Proofs.Ytljbedladifgmaa.Rev
namespace Go.Proofs.Ytljbedladifgmaa.Rev2
open Go Go.RowKit Eng
set_option linter.unusedVariables false
set_option maxRecDepth 100000
set_option linter.unusedSimpArgs false
open Wide Purse Tx Sha Ss Esc Vau Lck Do Prep Ful Doo Tri App Inn Low Gene Pln Plx Sam Alv Rev Deal Mss Ots Hash Bytes
set_option maxHeartbeats 1000000
theorem rev_c (s0 s : SS) (ao : Option Addr) (cap : Nat) (L : List Lk) (t : Tx) (e : Int) (hap : apF s L t = ⟨s1G s t, L, e, true⟩) (he : e ≠ 0) (hc : chk t = 0) (hno : t.no = s.no t.fr.toNat) (htk : (tkR s.pu t.fr 0 1).2 = 0) (hbu : s.bu + 1 < 115792089237316195423570985008687907853269984665640564039457584007913129639936) (w : World) (hw : Rd w ao (lcs L) ∧ SIn s ∧ SOk s ∧ LIn L ∧ TIn t ∧ sideS s0 = s ∧ L.length + 1 ≤ maxLen ∧ (L.length + 1) * 40 ≤ 140737488355328) : CSpec Try.prog 3 [.agg (s0.cells (.slice ao L.length cap)).toArray, .agg t.cells.toArray] [] w (Gives (.bool true)) := by
  obtain ⟨hr, hi, hs, hL, ht, hsd, hm1, hb⟩ := hw
  have hm : L.length ≤ maxLen := by omega
  have hb2 : L.length * 40 ≤ 140737488355328 := by omega
  have hge := (tk_eq htk).2
  refine spec_own0 Try.func3 rfl Try.ntmps3 rfl (l0 := [(0, .agg (s0.cells (.slice ao L.length cap)).toArray), (1, .agg t.cells.toArray)]) rfl ?_
  repeat' first
    | (refine J.qv ?_; (with_reducible apply exq); focus (first
      | ((with_reducible apply Qv.idxNo); exact rfl; exact rfl; (have h7 := chk_fr hc; constructor <;> omega))
      | ((with_reducible apply Qv.idxO); exact rfl; exact rfl; (have h7 := chk_fr hc; constructor <;> omega))
      | ((with_reducible apply Qv.mul); exact rfl; exact rfl; exact wr64 (by have h7 := chk_fr hc; omega) (by have h7 := chk_fr hc; omega) rfl)
      | ((with_reducible apply Qv.add); exact rfl; exact rfl; exact wr64 (by have h7 := chk_no hc; dsimp only [SS.wBu, SS.wPu]; omega) (by have h7 := chk_no hc; dsimp only [SS.wBu, SS.wPu]; omega) rfl)
      | ((with_reducible apply Qv.buildW); exact rfl; exact rfl; (first | with_reducible assumption | (unfold Wo; omega) | (simp only [Wd, Wo] at *; omega)))
      | ((with_reducible apply Qv.buildW0); exact rfl; exact rfl)))
    | (refine J.qr ?_; (with_reducible apply exq); focus (first
      | ((with_reducible apply Qr.ldPuI (k := 2 * t.fr.toNat)); exact rfl; (focus (have h7 := chk_fr hc; omega)); (focus (have h7 := chk_fr hc; omega)); (focus ((repeat (first | with_reducible exact In.here | with_reducible apply In.there)); done)))
      | ((with_reducible apply Qr.ldBu); exact rfl; (focus ((repeat (first | with_reducible exact In.here | with_reducible apply In.there)); done)))
      | ((with_reducible apply Qr.ldNo); exact rfl; (focus ((repeat (first | with_reducible exact In.here | with_reducible apply In.there)); done)); (have h7 := chk_fr hc; omega))
      | ((with_reducible apply Qr.loadFull); exact rfl; (focus ((repeat (first | with_reducible exact In.here | with_reducible apply In.there)); done)); (first | (with_reducible first | exact SS.len _ _ | exact wv_length _) | exact rfl))))
    | (refine J.qo ?_; refine ⟨?_, ?_⟩; focus (first
      | ((with_reducible apply Qr.ldPuI (k := 2 * t.fr.toNat)); exact rfl; (focus (have h7 := chk_fr hc; omega)); (focus (have h7 := chk_fr hc; omega)); (focus ((repeat (first | with_reducible exact In.here | with_reducible apply In.there)); done)))
      | ((with_reducible apply Qr.ldBu); exact rfl; (focus ((repeat (first | with_reducible exact In.here | with_reducible apply In.there)); done)))
      | ((with_reducible apply Qr.ldNo); exact rfl; (focus ((repeat (first | with_reducible exact In.here | with_reducible apply In.there)); done)); (have h7 := chk_fr hc; omega))
      | ((with_reducible apply Qr.loadFull); exact rfl; (focus ((repeat (first | with_reducible exact In.here | with_reducible apply In.there)); done)); (first | (with_reducible first | exact SS.len _ _ | exact wv_length _) | exact rfl))))
    | ((with_reducible apply J.wPuI (k := 2 * t.fr.toNat)); exact rfl; (focus (have h7 := chk_fr hc; omega)); (focus (have h7 := chk_fr hc; omega)); exact rfl; (repeat (first | with_reducible exact Upd.here | with_reducible apply Upd.there)))
    | ((with_reducible apply J.wBu); exact rfl; exact rfl; (repeat (first | with_reducible exact Upd.here | with_reducible apply Upd.there)))
    | ((with_reducible apply J.stNo); exact rfl; exact rfl; (repeat (first | with_reducible exact Upd.here | with_reducible apply Upd.there)); (have h7 := chk_fr hc; omega))
    | ((with_reducible apply J.storeFull); exact rfl; exact rfl; (repeat (first | with_reducible exact Upd.here | with_reducible apply Upd.there)); (with_reducible exact SS.len _ _); (focus (first | (with_reducible exact SS.len _ _) | kernel_rfl)); with_reducible exact SS.ones _ _ _ _)
    | ((with_reducible apply J.allocW); exact rfl; exact rfl; intro _)
    | ((with_reducible apply J.givesW (alive12)); exact rfl; exact rfl)
    | ((with_reducible apply J.givesW (side_c s0 s hsd _ _ _)); exact rfl; exact rfl)
    | ((with_reducible apply J.apE (apply_c s _ _ L t _ hap)); exact rfl; exact rfl; (exact RH.and (RH.old hr) (RH.of ⟨hs, ht, hm1, hb⟩)); intro q9 hq9; (try dsimp only))
    | ((with_reducible apply J.stV (plain_ _ _ _ L)); exact rfl; exact rfl; (first | exact RH.and (RH.row (by (repeat (first | with_reducible exact In.here | with_reducible apply In.there)))) (RH.of ⟨hm, hb2⟩) | exact RH.and (RH.old hr) (RH.of ⟨hm, hb2⟩)); intro _ _)
    | ((with_reducible apply J.givesR (same_ _ _ _ _ _ L)); exact rfl; exact rfl; (focus (exact RH.and (RH.and (RH.row (by (repeat (first | with_reducible exact In.here | with_reducible apply In.there)))) (RH.row (by (repeat (first | with_reducible exact In.here | with_reducible apply In.there))))) (RH.of ⟨s1G_in hi hc hno, hL, hm⟩))))
    | ((with_reducible apply J.givesP (Ref.sub_r _ _)); exact rfl; exact rfl; exact ⟨hi.pu _, wd_n (by decide) (by decide)⟩)
    | ((with_reducible apply J.givesP (Ref.add_r _ _)); exact rfl; exact rfl; exact ⟨hi.bu, wd_n (by decide) (by decide)⟩)
    | refine J.one ?_
    | refine J.loudS ?_
    | (refine J.loudQ ?_; intro _ _)
    | (refine J.loudB ?_; intro _)
    | (with_reducible apply J.list)
    | ((with_reducible apply J.draw (id := 6) [0, 1, 3, 7, 15, 7, 63, 127, 255, 511] (.p 0 (.p 1 (.p 2 (.q 3 (.q 5 (.x 4 (.x 6 (.x 7 (.p 8 (.p 9 .nil)) .none) .none) .none)))))) (by kernel_rfl) ?_ (by kernel_rfl) ?_); (repeat (with_reducible first | exact PanicFree.body | exact PanicFree.np | exact PanicFree.lvS | apply PanicFree.then_ | apply PanicFree.blk)))
    | ((with_reducible apply J.draw (id := 8) [0, 1, 0, 7, 15, 0, 32, 0, 224, 480, 1023, 2047, 4095] (.p 0 (.q 1 (.p 2 (.p 3 (.q 4 (.p 5 (.q 6 (.p 7 (.p 8 (.q 9 (.p 10 (.p 11 (.p 12 .nil))))))))))))) (by kernel_rfl) ?_ (by kernel_rfl) ?_); (repeat (with_reducible first | exact PanicFree.body | exact PanicFree.np | exact PanicFree.lvS | apply PanicFree.then_ | apply PanicFree.blk)))
    | ((with_reducible apply J.draw (id := 12) [0, 1, 3, 0, 0, 0, 47, 111, 255, 511] (.p 0 (.q 1 (.p 2 (.q 3 (.q 4 (.p 5 (.p 6 (.x 7 (.p 8 (.x 9 .nil .none)) .none)))))))) (by kernel_rfl) ?_ (by kernel_rfl) ?_); (repeat (with_reducible first | exact PanicFree.body | exact PanicFree.np | exact PanicFree.lvS | apply PanicFree.then_ | apply PanicFree.blk)))
    | ((with_reducible apply J.draw (id := 14) [0, 1, 3, 7, 15, 31, 63, 31, 255, 511, 1023] (.p 0 (.p 1 (.p 2 (.p 3 (.p 4 (.q 5 (.q 7 (.x 6 (.x 8 (.p 9 (.p 10 .nil)) .none) .none)))))))) (by kernel_rfl) ?_ (by kernel_rfl) ?_); (repeat (with_reducible first | exact PanicFree.body | exact PanicFree.np | exact PanicFree.lvS | apply PanicFree.then_ | apply PanicFree.blk)))
    | ((with_reducible apply J.pl2); exact rfl; (first | exact Gd.none | ((with_reducible apply Gd.on); exact rfl; exact rfl)); (repeat (first | (with_reducible exact PendF.nil) | ((with_reducible apply PendF.keep); exact rfl) | ((with_reducible apply PendF.gone); exact rfl))))
    | ((with_reducible apply J.pl2_off); exact rfl; ((with_reducible apply Gd.off); exact rfl; exact rfl; exact rfl); exact rfl; (repeat (first | (with_reducible exact PendF.nil) | ((with_reducible apply PendF.keep); exact rfl) | ((with_reducible apply PendF.gone); exact rfl))))
    | ((with_reducible apply J.pl2_off_none); exact rfl; ((with_reducible apply Gd.off); exact rfl; exact rfl; exact rfl); (repeat (first | (with_reducible exact PendF.nil) | ((with_reducible apply PendF.keep); exact rfl) | ((with_reducible apply PendF.gone); exact rfl))))
    | ((with_reducible first | apply J.psplit0 | apply J.psplit1 | apply J.psplit2); exact rfl; exact rfl; exact rfl)
    | (with_reducible exact J.pl_none)
    | ((with_reducible apply J.gsplit); exact rfl; exact rfl)
    | ((with_reducible first | apply J.cond | apply JC.cond); exact rfl)
    | (intro h; exfalso; (first | (simp at h; done) | (simp at h; omega) | omega))
    | (intro h; (try simp only [decide_eq_true_eq, decide_eq_false_iff_not, beq_iff_eq, beq_eq_false_iff_ne, Bool.not_eq_true', Bool.not_eq_false', bne_iff_ne, bne_eq_false_iff_eq, ne_eq, ge_iff_le, gt_iff_lt] at h))
    | (with_reducible apply J.gave')
    | ((with_reducible apply J.kept'); rotate_left; (repeat (first | (with_reducible exact Outs.nil) | ((with_reducible apply Outs.cons); (repeat (first | with_reducible exact Out.here | with_reducible apply Out.there))))))
  all_goals
    first
    | rfl
    | (trace_state; fail)
theorem reverts (s0 : SS) (ao : Option Addr) (cap : Nat) (L : List Lk) (t : Tx) (w : World) (hr : Rd w ao (lcs L)) (hi : SIn s0) (hL : LIn L) (ht : TIn t) (hm1 : L.length + 1 ≤ maxLen) (hb : (L.length + 1) * 40 ≤ 140737488355328) : CSpec Try.prog 3 [.agg (s0.cells (.slice ao L.length cap)).toArray, .agg t.cells.toArray] [] w (Gives (.bool true)) := by
  have hw := (⟨hr, sideS_in hi, sideS_ok hi, hL, ht, rfl, hm1, hb⟩ : Rd w ao (lcs L) ∧ SIn (sideS s0) ∧ SOk (sideS s0) ∧ LIn L ∧ TIn t ∧ sideS s0 = sideS s0 ∧ L.length + 1 ≤ maxLen ∧ (L.length + 1) * 40 ≤ 140737488355328)
  rcases ap_cases (s := sideS s0) (L := L) (t := t) with ⟨e, h1, h2⟩ | ⟨hc, hno, htk, hbu, ⟨n, L', h1, h2⟩ | ⟨e, h1, h2⟩⟩
  · exact rev_a s0 _ ao cap L t e h1 h2 w hw
  · exact rev_b s0 _ ao cap L t n L' h1 h2 hc hno w hw
  · exact rev_c s0 _ ao cap L t e h1 h2 hc hno htk hbu w hw
theorem EscrowReverts {r : Reach} {b0 : Nat} {H : Type} {enc : TypeId × Value → H} {spare : Nat → Bool} {held : Bool} {d d' : DataW H} {p p' : List MemPlace} (v v2 : Value) (W : World) (o : Value.okWide Try.prog W r b0 31 v) (t : DataW.Trod enc Try.prog W 0 spare held 31 v d p) (sz : ∀ (cs : List Value) a len cap, v = .agg cs.toArray → cs[150]? = some (.slice (some a) len cap) → len * Try.prog.bytesOf 56 ≤ 140737488351232) (o2 : Value.okWide Try.prog W r b0 37 v2) (t2 : DataW.Trod enc Try.prog W 0 spare held 37 v2 d' p') :
    Calls Try.prog 3 #[v, v2] W fun e w' => e = .returned (.bool true) ∧ Below W.heap.size W w' := by
  obtain ⟨s, ao, L, cap, rfl, h1, h2, h3, h4, h5⟩ := in_st o t sz
  obtain ⟨u, rfl, h6, h7⟩ := in_tx o2 t2
  exact (reverts s ao cap L u W h3 h1 h2 h6 h4 h5).below
end Go.Proofs.Ytljbedladifgmaa.Rev2
