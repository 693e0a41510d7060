/-
  The reference automaton: what is done of a lock. No conditions.
-/
import Derived.Test.YtljbedladifgmaaGreatQR12f
namespace Go.Proofs.YtljbedladifgmaaGreat.R12g
open Go Go.RowKit Eng
set_option linter.unusedVariables false
set_option maxRecDepth 100000
set_option linter.unusedSimpArgs false
open Wide Purse Tx Sha Ss Esc Vau Lck Do Prep Ful Doo Tri App Inn Low Gene Pln Plx Sam Alv Deal Mss Ots Hash Bytes R6 R6b Lks R12 R12b R4 R4b R12c R12d R12e R12f
set_option maxHeartbeats 6000000
theorem spec_imp {P : Program} {f : Nat} {args : List Value} {H1 : List Asrt} {w : World} {R R' : Ending → List Asrt → Prop} (h : CSpec P f args H1 w R) (hi : ∀ e H, R e H → R' e H) : CSpec P f args H1 w R' := fun fp h1 h2 h3 => Calls.mono (h fp h1 h2 h3) fun e w' ⟨H3, hR, hs⟩ => ⟨H3, hi e H3 hR, hs⟩
theorem lockE_ge {L : List Lk} {t : Tx} (h : lockE L t = 0) : 0 ≤ plc L (keyT t) := by
  unfold lockE at h
  split at h
  · assumption
  · omega
theorem pk_same {lv : Value} {L : List Lk} {x y : Int × SS} (h : Same x y) {e : Ending} {H : List Asrt} (hr : RPk lv L x e H) : RPk lv L y e H := by
  rcases hr with ⟨h1, q, hq, h2, h3⟩ | ⟨h1, s2, h2, h3⟩
  · have h4 : y.1 = 0 := h.1 ▸ h1
    exact .inl ⟨h4, q, hq, by rw [h2, h.2 h4], h3⟩
  · exact .inr ⟨h.1 ▸ h1, s2, by rw [h2, h.1], h3⟩
theorem pl_same {lv : Value} {x y : Int × SS} (h : Same x y) {e : Ending} {H : List Asrt} (hr : RPl lv x e H) : RPl lv y e H := by
  obtain ⟨s2, h1, h2, h3⟩ := hr
  exact ⟨s2, fun h4 => (h1 (h.1.trans h4)).trans (h.2 h4), by rw [h2, h.1], h3⟩
theorem inA_of {a b : Int} (h0 : 0 ≤ a) (h1 : a ≤ 7) (h2 : 0 ≤ b) (h3 : b ≤ 1) : inA a b = true := inA_iff.2 ⟨h0, by omega, h2, by omega⟩
theorem rprep_c (s : SS) (ao : Option Addr) (n cap : Nat) (L : List Lk) (t : Tx) (w : World) (hw : (∀ j, Wd (s.pu j)) ∧ (∀ j, Wd (s.va j)) ∧ (∀ j, Wd (s.he j)) ∧ T4 t ∧ Rd w ao (lcs L) ∧ n = L.length ∧ L.length + 1 ≤ maxLen ∧ (L.length + 1) * 40 ≤ 140737488355328 ∧ 0 ≤ s.time ∧ s.time ≤ 1099511627776) : CSpec Tryz.prog 53 [.agg (s.cells (.slice ao n cap)).toArray, .agg t.cells.toArray] [] w (RPk (.slice ao n cap) (prepL L t) (prepX s L t)) := spec_imp (rprep_ s ao n cap L t w hw) fun e H h => pk_same (rpr_do (inA_of hw.2.2.2.1.f0 hw.2.2.2.1.f1 hw.2.2.2.1.re0 hw.2.2.2.1.re1) (inA_of hw.2.2.2.1.f0 hw.2.2.2.1.f1 hw.2.2.2.1.se0 hw.2.2.2.1.se1)) h
theorem rful_c (s : SS) (ao : Option Addr) (n cap : Nat) (L : List Lk) (t : Tx) (w : World) (hw : (∀ j, Wd (s.pu j)) ∧ (∀ j, Wd (s.va j)) ∧ (∀ j, Wd (s.he j)) ∧ T4 t ∧ Rd w ao (lcs L) ∧ n = L.length ∧ L.length + 1 ≤ maxLen ∧ (L.length + 1) * 40 ≤ 140737488355328 ∧ 0 ≤ s.time ∧ s.time ≤ 1099511627776) : CSpec Tryz.prog 54 [.agg (s.cells (.slice ao n cap)).toArray, .agg t.cells.toArray] [] w (RPk (.slice ao n cap) (endL L t 2) (fulX s L t)) := by
  have ht : T4 t := hw.2.2.2.1
  have key : CSpec Tryz.prog 54 [.agg (s.cells (.slice ao n cap)).toArray, .agg t.cells.toArray] [] w (RPk (.slice ao n cap) (endL L t 2) (rful s L t)) := by
    by_cases hl : lockE L t = 0
    · have h2 := lockE_lt hl
      have h3 := lockE_ge hl
      exact rful__y s ao n cap L t (plc L (keyT t)).toNat hl (by omega) (by omega) w hw
    · exact rful__n s ao n cap L t _ rfl hl w hw
  exact spec_imp key fun e H h => pk_same (rful_do (inA_of ht.to0 ht.to1 ht.re0 ht.re1) (inA_of ht.f0 ht.f1 ht.re0 ht.re1) (inA_of (by have := ht.ro0; omega) (by have := ht.ro1; omega) ht.se0 ht.se1)) h
theorem rcan_c (s : SS) (ao : Option Addr) (n cap : Nat) (L : List Lk) (t : Tx) (w : World) (hw : (∀ j, Wd (s.pu j)) ∧ (∀ j, Wd (s.va j)) ∧ (∀ j, Wd (s.he j)) ∧ T4 t ∧ Rd w ao (lcs L) ∧ n = L.length ∧ L.length + 1 ≤ maxLen ∧ (L.length + 1) * 40 ≤ 140737488355328 ∧ 0 ≤ s.time ∧ s.time ≤ 1099511627776 ∧ (s.side = 0 ∨ s.side = 1)) : CSpec Tryz.prog 55 [.agg (s.cells (.slice ao n cap)).toArray, .agg t.cells.toArray] [] w (RPk (.slice ao n cap) (endL L t 3) (canX s L t)) := by
  have ht : T4 t := hw.2.2.2.1
  have key : CSpec Tryz.prog 55 [.agg (s.cells (.slice ao n cap)).toArray, .agg t.cells.toArray] [] w (RPk (.slice ao n cap) (endL L t 3) (rcan s L t)) := by
    by_cases hl : lockE L t = 0
    · have h2 := lockE_lt hl
      have h3 := lockE_ge hl
      exact rcan__y s ao n cap L t (plc L (keyT t)).toNat hl (by omega) (by omega) w hw
    · exact rcan__n s ao n cap L t _ rfl hl w hw
  exact spec_imp key fun e H h => pk_same (rcan_do (inA_of (by have := ht.ro0; omega) (by have := ht.ro1; omega) ht.re0 ht.re1) (inA_of ht.us0 (by have := ht.us1; omega) ht.se0 ht.se1)) h
theorem rplain_c (s : SS) (ao : Option Addr) (n cap : Nat) (L : List Lk) (t : Tx) (hk : 1 ≤ t.ki ∧ t.ki ≤ 3) (w : World) (hw : (∀ j, Wd (s.pu j)) ∧ (∀ j, Wd (s.va j)) ∧ (∀ j, Wd (s.he j)) ∧ Wd t.am ∧ 0 ≤ t.fr ∧ t.fr ≤ 7 ∧ 0 ≤ t.at_ ∧ t.at_ ≤ 1 ∧ (t.ki = 1 → 0 ≤ t.to ∧ t.to ≤ 7) ∧ (t.ki = 2 → 2 ≤ t.ro ∧ t.ro ≤ 3)) : CSpec Tryz.prog 56 [.agg (s.cells (.slice ao n cap)).toArray, .agg t.cells.toArray] [] w (RPl (.slice ao n cap) (doX s L t)) := by
  refine spec_imp (rplain_ s ao n cap t w hw) fun e H h => pl_same ?_ h
  obtain ⟨_, _, _, _, f0, f1, a0, a1, hto, hro⟩ := hw
  have hfa : inA t.fr t.at_ = true := inA_of f0 f1 a0 a1
  unfold doX
  by_cases k1 : t.ki = 1
  · rw [rp_1 k1, if_pos k1]
    exact rp1_do hfa (inA_of (hto k1).1 (hto k1).2 a0 a1)
  · by_cases k2 : t.ki = 2
    · rw [rp_2 k2, if_neg k1, if_pos k2]
      exact rp2_do hfa (inA_of (by have := (hro k2).1; omega) (by have := (hro k2).2; omega) a0 a1)
    · rw [rp_3 k1 k2, if_neg k1, if_neg k2, if_pos (by omega)]
      exact rp3_do hfa
end Go.Proofs.YtljbedladifgmaaGreat.R12g
