/-
  The reference automaton: plain kinds. No conditions.
-/
import Derived.Test.YtljbedladifgmaaGreatQR12
namespace Go.Proofs.YtljbedladifgmaaGreat.R12b
open Go Go.RowKit Eng
set_option linter.unusedVariables false
set_option maxRecDepth 100000
set_option linter.unusedSimpArgs false
open Wide Purse Tx Sha Ss Esc Vau Lck Do Prep Ful Doo Tri App Inn Low Gene Pln Plx Sam Alv Deal Mss Ots Hash Bytes R6 R6b Lks R12
set_option maxHeartbeats 1000000
/-- Where a purse stands. -/
abbrev pl2 (a b : Int) : Nat := (2 * a + b).toNat
/-- Plain kinds, as the automaton does them. -/
def rp1 (s : SS) (t : Tx) : Int × SS := if (lsF s.pu (pl2 t.fr t.at_) t.am).2 = true then (if (mrF (lsF s.pu (pl2 t.fr t.at_) t.am).1 (pl2 t.to t.at_) t.am).2 = true then (0, SS.wPu (SS.wPu s (lsF s.pu (pl2 t.fr t.at_) t.am).1) (mrF (lsF s.pu (pl2 t.fr t.at_) t.am).1 (pl2 t.to t.at_) t.am).1) else (38, s)) else (30, s)
def s2a (s : SS) (t : Tx) : SS := SS.wVa (SS.wPu s (lsF s.pu (pl2 t.fr t.at_) t.am).1) (mrF s.va (pl2 t.ro t.at_) t.am).1
def rp2 (s : SS) (t : Tx) : Int × SS := if (lsF s.pu (pl2 t.fr t.at_) t.am).2 = true then (if (mrF s.va (pl2 t.ro t.at_) t.am).2 = true ∧ (hdF (s2a s t) t.at_ t.am true).2 = true then (0, (hdF (s2a s t) t.at_ t.am true).1) else (38, s)) else (30, s)
def s3a (s : SS) (t : Tx) : SS := SS.wPu (SS.wVa s (lsF s.va (pl2 t.fr t.at_) t.am).1) (mrF s.pu (pl2 t.fr t.at_) t.am).1
def rp3 (s : SS) (t : Tx) : Int × SS := if 2 ≤ t.fr ∧ t.fr ≤ 3 then (if (lsF s.va (pl2 t.fr t.at_) t.am).2 = true then (if (mrF s.pu (pl2 t.fr t.at_) t.am).2 = true ∧ (hdF (s3a s t) t.at_ t.am false).2 = true then (0, (hdF (s3a s t) t.at_ t.am false).1) else (38, s)) else (31, s)) else (37, s)
def rpl (s : SS) (t : Tx) : Int × SS := if t.ki = 1 then rp1 s t else if t.ki = 2 then rp2 s t else rp3 s t
/-- A state and an error: the state counts if there is none. -/
def RPl (lv : Value) (x : Int × SS) : Ending → List Asrt → Prop := fun e H => ∃ s2 : SS, (x.1 = 0 → s2 = x.2) ∧ e = .returned (.tuple #[.agg (s2.cells lv).toArray, .int .i64 x.1]) ∧ H = []
theorem J.endPl {c : Cx} {l : TL} {H : List Asrt} {lv : Value} {x y : Int × SS} {r : Value} {s2 : SS} {e2 : Int} (hr : r = .tuple #[.agg (s2.cells lv).toArray, .int .i64 e2]) (he : x = y) (h1 : y.1 = e2) (h2 : y.1 = 0 → s2 = y.2) : J c l H (fun _ w => ∃ H3, RPl lv x (.returned r) H3 ∧ Sat c.w0 c.own H3 w) := by
  subst hr he h1
  exact J.post (R := RPl lv x) ⟨s2, h2, rfl, rfl⟩ .nil
theorem tx_am (t : Tx) : (t.cells.drop 4).take 4 = wv t.am := rfl
theorem tx_va (t : Tx) : (t.cells.drop 15).take 4 = wv t.va := rfl
theorem tx_fee (t : Tx) : (t.cells.drop 20).take 4 = wv t.fee := rfl
theorem tx_len (t : Tx) : t.cells.length = 25 := rfl
theorem bindE_0 {s1 : SS} {f : SS → Int × SS} : bindE (0, s1) f = f s1 := if_pos rfl
theorem tk_ls {ns : Nat → Int} {a i x : Int} (h : inA a i = true) : tkR ns a i x = ((lsF ns (pl2 a i) x).1, if (lsF ns (pl2 a i) x).2 = true then 0 else 30) := by
  obtain ⟨h0, h1, h2, h3⟩ := inA_iff.1 h
  have e : 2 * a.toNat + i.toNat = pl2 a i := by unfold pl2; omega
  unfold tkR lsF
  rw [if_pos h, e]
  split <;> rfl
theorem gv_mr {ns : Nat → Int} {a i x : Int} (h : inA a i = true) : gvR ns a i x = ((mrF ns (pl2 a i) x).1, if (mrF ns (pl2 a i) x).2 = true then 0 else 38) := by
  obtain ⟨h0, h1, h2, h3⟩ := inA_iff.1 h
  have e : 2 * a.toNat + i.toNat = pl2 a i := by unfold pl2; omega
  unfold gvR mrF
  rw [if_pos h, e]
  split <;> rfl
theorem takeP_e (s : SS) {a i x : Int} (h : inA a i = true) : takeP s a i x = (if (lsF s.pu (pl2 a i) x).2 = true then 0 else 30, SS.wPu s (lsF s.pu (pl2 a i) x).1) := by
  unfold takeP
  rw [tk_ls h]
  rfl
theorem putP_e (s : SS) {a i x : Int} (h : inA a i = true) : putP s a i x = (if (mrF s.pu (pl2 a i) x).2 = true then 0 else 38, SS.wPu s (mrF s.pu (pl2 a i) x).1) := by
  unfold putP
  rw [gv_mr h]
  rfl
theorem putV_e (s : SS) {a i x : Int} (h : inA a i = true) : putV s a i x = (if (mrF s.va (pl2 a i) x).2 = true then 0 else 38, SS.wVa s (mrF s.va (pl2 a i) x).1) := by
  unfold putV
  rw [gv_mr h]
  rfl
theorem vaultV_e (s : SS) {a i x : Int} (h : inA a i = true) : vaultV s a i x = (if (lsF s.va (pl2 a i) x).2 = true then 0 else 31, SS.wVa s (lsF s.va (pl2 a i) x).1) := by
  unfold vaultV vaultS
  rw [tk_ls h]
  dsimp only
  split <;> rename_i h1
  · rw [if_pos rfl]; rfl
  · rw [if_neg (by decide)]; rfl
theorem holdH_e (s : SS) (a x : Int) : (holdH s a x).1 = (if (hdF s a x true).2 = true then 0 else 38) ∧ ((hdF s a x true).2 = true → (holdH s a x).2 = (hdF s a x true).1) := by
  by_cases h : s.he a.toNat + x < 115792089237316195423570985008687907853269984665640564039457584007913129639936
  · rw [hdF_uy h]
    refine ⟨if_pos h, fun _ => ?_⟩
    show holdS s a x = _
    unfold holdS
    rw [wadd_y h]
    rfl
  · rw [hdF_un h]
    exact ⟨if_neg h, fun h2 => by cases h2⟩
theorem freeH_e (s : SS) (a x : Int) : (freeH s a x).1 = (if (hdF s a x false).2 = true then 0 else 38) ∧ ((hdF s a x false).2 = true → (freeH s a x).2 = (hdF s a x false).1) := by
  by_cases h : x ≤ s.he a.toNat
  · rw [hdF_dy h]
    refine ⟨if_pos h, fun _ => ?_⟩
    show freeS s a x = _
    unfold freeS
    rw [wsub_y h]
    rfl
  · rw [hdF_dn h]
    exact ⟨if_neg h, fun h2 => by cases h2⟩
/-- As it is done. -/
def Same (x y : Int × SS) : Prop := x.1 = y.1 ∧ (y.1 = 0 → x.2 = y.2)
theorem Same.rfl' (x : Int × SS) : Same x x := ⟨rfl, fun _ => rfl⟩
theorem Same.err {e : Int} {s s' : SS} (h : e ≠ 0) : Same (e, s) (e, s') := ⟨rfl, fun h2 => absurd h2 h⟩
theorem same_hold (s : SS) (a x : Int) {up : Bool} {y : Int × SS} {s0 : SS} (h : y.1 = (if (hdF s a x up).2 = true then 0 else 38)) (h2 : (hdF s a x up).2 = true → y.2 = (hdF s a x up).1) : Same (if (hdF s a x up).2 = true then (0, (hdF s a x up).1) else (38, s0)) y := by
  by_cases h3 : (hdF s a x up).2 = true
  · rw [if_pos h3] at h ⊢
    exact ⟨h.symm, fun _ => (h2 h3).symm⟩
  · rw [if_neg h3] at h ⊢
    exact ⟨h.symm, fun h4 => by rw [h] at h4; exact absurd h4 (by decide)⟩
theorem rp1_do {s : SS} {t : Tx} (h1 : inA t.fr t.at_ = true) (h2 : inA t.to t.at_ = true) : Same (rp1 s t) (moveP s t.fr t.to t.at_ t.am) := by
  unfold rp1 moveP mvR
  rw [tk_ls h1, gv_mr h2]
  dsimp only
  by_cases h3 : (lsF s.pu (pl2 t.fr t.at_) t.am).2 = true
  · rw [if_pos h3, if_pos h3, if_pos rfl]
    by_cases h4 : (mrF (lsF s.pu (pl2 t.fr t.at_) t.am).1 (pl2 t.to t.at_) t.am).2 = true
    · rw [if_pos h4, if_pos h4, if_pos rfl]
      exact ⟨rfl, fun _ => rfl⟩
    · rw [if_neg h4, if_neg h4, if_neg (by decide)]
      exact Same.err (by decide)
  · rw [if_neg h3, if_neg h3, if_neg (by decide)]
    exact Same.err (by decide)
theorem rp2_do {s : SS} {t : Tx} (h1 : inA t.fr t.at_ = true) (h2 : inA t.ro t.at_ = true) : Same (rp2 s t) (storeX s t) := by
  unfold rp2 storeX
  rw [takeP_e s h1]
  by_cases h3 : (lsF s.pu (pl2 t.fr t.at_) t.am).2 = true
  · rw [if_pos h3, if_pos h3, bindE_0, putV_e _ h2]
    show Same (if (mrF s.va (pl2 t.ro t.at_) t.am).2 = true ∧ _ then _ else _) (bindE (if (mrF s.va (pl2 t.ro t.at_) t.am).2 = true then 0 else 38, s2a s t) _)
    by_cases h4 : (mrF s.va (pl2 t.ro t.at_) t.am).2 = true
    · rw [if_pos h4, bindE_0]
      simp only [h4, true_and]
      have h5 := holdH_e (s2a s t) t.at_ t.am
      exact same_hold _ _ _ h5.1 h5.2
    · rw [if_neg h4, if_neg (fun h => h4 h.1), bindE_no (by simp)]
      exact Same.err (by decide)
  · rw [if_neg h3, if_neg h3, bindE_no (by simp)]
    exact Same.err (by decide)
theorem rp3_do {s : SS} {t : Tx} (h1 : inA t.fr t.at_ = true) : Same (rp3 s t) (drawX s t) := by
  unfold rp3
  by_cases h0 : 2 ≤ t.fr ∧ t.fr ≤ 3
  · rw [if_pos h0, drawX_in h0.1 (by omega), vaultV_e s h1]
    by_cases h3 : (lsF s.va (pl2 t.fr t.at_) t.am).2 = true
    · rw [if_pos h3, if_pos h3, bindE_0, putP_e _ h1]
      show Same (if (mrF s.pu (pl2 t.fr t.at_) t.am).2 = true ∧ _ then _ else _) (bindE (if (mrF s.pu (pl2 t.fr t.at_) t.am).2 = true then 0 else 38, s3a s t) _)
      by_cases h4 : (mrF s.pu (pl2 t.fr t.at_) t.am).2 = true
      · rw [if_pos h4, bindE_0]
        simp only [h4, true_and]
        have h5 := freeH_e (s3a s t) t.at_ t.am
        exact same_hold _ _ _ h5.1 h5.2
      · rw [if_neg h4, if_neg (fun h => h4 h.1), bindE_no (by simp)]
        exact Same.err (by decide)
    · rw [if_neg h3, if_neg h3, bindE_no (by simp)]
      exact Same.err (by decide)
  · rw [if_neg h0, drawX_out (by omega)]
    exact Same.rfl' _
section
variable {s : SS} {t : Tx}
theorem rp_1 (hk : t.ki = 1) : rpl s t = rp1 s t := if_pos hk
theorem rp_2 (hk : t.ki = 2) : rpl s t = rp2 s t := by unfold rpl; rw [if_neg (by omega), if_pos hk]
theorem rp_3 (hk : ¬ t.ki = 1) (hk2 : ¬ t.ki = 2) : rpl s t = rp3 s t := by unfold rpl; rw [if_neg hk, if_neg hk2]
theorem ne_of {b : Bool} (h : b = false) : ¬ b = true := by rw [h]; decide
theorem rp1_a (h : (lsF s.pu (pl2 t.fr t.at_) t.am).2 = false) : rp1 s t = (30, s) := if_neg (ne_of h)
theorem rp1_b (h : (lsF s.pu (pl2 t.fr t.at_) t.am).2 = true) (h2 : (mrF (lsF s.pu (pl2 t.fr t.at_) t.am).1 (pl2 t.to t.at_) t.am).2 = false) : rp1 s t = (38, s) := by unfold rp1; rw [if_pos h, if_neg (ne_of h2)]
theorem rp1_c (h : (lsF s.pu (pl2 t.fr t.at_) t.am).2 = true) (h2 : (mrF (lsF s.pu (pl2 t.fr t.at_) t.am).1 (pl2 t.to t.at_) t.am).2 = true) : rp1 s t = (0, SS.wPu (SS.wPu s (lsF s.pu (pl2 t.fr t.at_) t.am).1) (mrF (lsF s.pu (pl2 t.fr t.at_) t.am).1 (pl2 t.to t.at_) t.am).1) := by unfold rp1; rw [if_pos h, if_pos h2]
theorem rp2_a (h : (lsF s.pu (pl2 t.fr t.at_) t.am).2 = false) : rp2 s t = (30, s) := if_neg (ne_of h)
theorem rp2_b (h : (lsF s.pu (pl2 t.fr t.at_) t.am).2 = true) (h2 : (mrF s.va (pl2 t.ro t.at_) t.am).2 = false) : rp2 s t = (38, s) := by unfold rp2; rw [if_pos h, if_neg (fun h3 => ne_of h2 h3.1)]
theorem rp2_c (h : (lsF s.pu (pl2 t.fr t.at_) t.am).2 = true) (h2 : (hdF (s2a s t) t.at_ t.am true).2 = false) : rp2 s t = (38, s) := by unfold rp2; rw [if_pos h, if_neg (fun h3 => ne_of h2 h3.2)]
theorem rp2_d (h : (lsF s.pu (pl2 t.fr t.at_) t.am).2 = true) (h2 : (mrF s.va (pl2 t.ro t.at_) t.am).2 = true) (h3 : (hdF (s2a s t) t.at_ t.am true).2 = true) : rp2 s t = (0, (hdF (s2a s t) t.at_ t.am true).1) := by unfold rp2; rw [if_pos h, if_pos ⟨h2, h3⟩]
theorem rp3_o (h0 : t.fr < 2 ∨ 3 < t.fr) : rp3 s t = (37, s) := if_neg (by omega)
theorem rp3_a (h0 : 2 ≤ t.fr) (h00 : t.fr ≤ 3) (h : (lsF s.va (pl2 t.fr t.at_) t.am).2 = false) : rp3 s t = (31, s) := by unfold rp3; rw [if_pos ⟨h0, h00⟩, if_neg (ne_of h)]
theorem rp3_b (h0 : 2 ≤ t.fr) (h00 : t.fr ≤ 3) (h : (lsF s.va (pl2 t.fr t.at_) t.am).2 = true) (h2 : (mrF s.pu (pl2 t.fr t.at_) t.am).2 = false) : rp3 s t = (38, s) := by unfold rp3; rw [if_pos ⟨h0, h00⟩, if_pos h, if_neg (fun h3 => ne_of h2 h3.1)]
theorem rp3_c (h0 : 2 ≤ t.fr) (h00 : t.fr ≤ 3) (h : (lsF s.va (pl2 t.fr t.at_) t.am).2 = true) (h2 : (hdF (s3a s t) t.at_ t.am false).2 = false) : rp3 s t = (38, s) := by unfold rp3; rw [if_pos ⟨h0, h00⟩, if_pos h, if_neg (fun h3 => ne_of h2 h3.2)]
theorem rp3_d (h0 : 2 ≤ t.fr) (h00 : t.fr ≤ 3) (h : (lsF s.va (pl2 t.fr t.at_) t.am).2 = true) (h2 : (mrF s.pu (pl2 t.fr t.at_) t.am).2 = true) (h3 : (hdF (s3a s t) t.at_ t.am false).2 = true) : rp3 s t = (0, (hdF (s3a s t) t.at_ t.am false).1) := by unfold rp3; rw [if_pos ⟨h0, h00⟩, if_pos h, if_pos ⟨h2, h3⟩]
end
theorem rplain_ (s : SS) (ao : Option Addr) (n cap : Nat) (t : Tx) (w : World) (hw : (∀ j, Wd (s.pu j)) ∧ (∀ j, Wd (s.va j)) ∧ (∀ j, Wd (s.he j)) ∧ Wd t.am ∧ 0 ≤ t.fr ∧ t.fr ≤ 7 ∧ 0 ≤ t.at_ ∧ t.at_ ≤ 1 ∧ (t.ki = 1 → 0 ≤ t.to ∧ t.to ≤ 7) ∧ (t.ki = 2 → 2 ≤ t.ro ∧ t.ro ≤ 3)) : CSpec Tryz.prog 56 [.agg (s.cells (.slice ao n cap)).toArray, .agg t.cells.toArray] [] w (RPl (.slice ao n cap) (rpl s t)) := by
  obtain ⟨hp, hv, hh, hx, f0, f1, a0, a1, hto, hro⟩ := hw
  refine spec_own0 Tryz.func56 rfl Tryz.ntmps56 rfl (l0 := [(0, .agg (s.cells (.slice ao n cap)).toArray), (1, .agg t.cells.toArray)]) rfl ?_
  repeat' first
    | ((with_reducible apply J.ret); exact rfl; exact rfl; (repeat (first | (with_reducible exact Res.nil) | ((with_reducible apply Res.tmp); exact rfl) | ((with_reducible apply Res.full); exact rfl; (focus ((repeat (first | with_reducible exact In.here | with_reducible apply In.there)); done)); (with_reducible exact SS.len _ _)) | ((with_reducible apply Res.cell1); exact rfl; (repeat (first | with_reducible exact In.here | with_reducible apply In.there)); exact rfl))); exact rfl)
    | (refine J.qv ?_; (with_reducible apply exq); focus (first
      | ((with_reducible apply Qv.mul); exact rfl; exact rfl; exact wr64 (by omega) (by omega) rfl)
      | ((with_reducible apply Qv.add); exact rfl; exact rfl; exact wr64 (by omega) (by omega) rfl)))
    | (refine J.qr ?_; (with_reducible apply exq); focus (first
      | ((with_reducible apply Qr.ldPu); exact rfl; (focus ((repeat (first | with_reducible exact In.here | with_reducible apply In.there)); done)))
      | ((with_reducible apply Qr.ldVa); exact rfl; (focus ((repeat (first | with_reducible exact In.here | with_reducible apply In.there)); done)))
      | ((with_reducible apply Qr.loadN); exact rfl; (focus ((repeat (first | with_reducible exact In.here | with_reducible apply In.there)); done)); (first | exact tx_am t | exact tx_va t); with_reducible exact wv_length _)
      | ((with_reducible apply Qr.loadFull); exact rfl; (focus ((repeat (first | with_reducible exact In.here | with_reducible apply In.there)); done)); (with_reducible first | exact wv_length _ | exact wvs_len16 _ | exact SS.len _ _))
      | ((with_reducible apply Qr.load1); exact rfl; (focus ((repeat (first | with_reducible exact In.here | with_reducible apply In.there)); done)); exact rfl)))
    | ((with_reducible apply J.wPu); exact rfl; exact rfl; (repeat (first | with_reducible exact Upd.here | with_reducible apply Upd.there)))
    | ((with_reducible apply J.wVa); exact rfl; exact rfl; (repeat (first | with_reducible exact Upd.here | with_reducible apply Upd.there)))
    | ((with_reducible apply J.storeFull); exact rfl; exact rfl; (repeat (first | with_reducible exact Upd.here | with_reducible apply Upd.there)); (with_reducible first | exact wv_length _ | exact wvs_len16 _ | exact SS.len _ _); (focus (first | (with_reducible first | exact wv_length _ | exact wvs_len16 _ | exact SS.len _ _) | kernel_rfl)); (with_reducible first | exact wv_ones _ | exact wvs_ones _ _ | exact SS.ones _ _ _ _))
    | ((with_reducible apply J.storeFull); exact rfl; exact rfl; (repeat (first | with_reducible exact Upd.here | with_reducible apply Upd.there)); (with_reducible exact SS.len _ _); (focus (first | (with_reducible exact SS.len _ _) | kernel_rfl)); with_reducible exact SS.ones _ _ _ _)
    | ((with_reducible apply J.givesR (less _ _ _)); exact rfl; exact rfl; focus (exact RH.of ⟨(by first | exact hp | exact hv), hx, by omega, by omega⟩))
    | ((with_reducible apply J.givesR (more _ _ _)); exact rfl; exact rfl; focus (exact RH.of ⟨(by first | exact hp | exact hv | exact lsF_wd hp hx | exact lsF_wd hv hx), hx, by omega, by omega⟩))
    | ((with_reducible apply J.givesR (held_t _ _ _ _)); exact rfl; exact rfl; focus (exact RH.of ⟨hh, hx, by omega, by omega, _, _, _, rfl⟩))
    | ((with_reducible apply J.givesR (held_f _ _ _ _)); exact rfl; exact rfl; focus (exact RH.of ⟨hh, hx, by omega, by omega, _, _, _, rfl⟩))
    | refine J.one ?_
    | refine J.loudS ?_
    | (refine J.loudQ ?_; intro _ _)
    | (refine J.loudB ?_; intro _)
    | (with_reducible apply J.list)
    | ((with_reducible apply J.gsplit); exact rfl; exact rfl)
    | ((with_reducible first | apply J.cond | apply JC.cond); exact rfl)
    | (intro h; exfalso; (first | (simp at h; done) | omega))
    | (intro h; (try simp only [decide_eq_true_eq, decide_eq_false_iff_not, beq_iff_eq, beq_eq_false_iff_ne, Bool.not_eq_true', Bool.not_eq_false', bne_iff_ne, bne_eq_false_iff_eq, ne_eq, ge_iff_le, gt_iff_lt] at h))
    | (with_reducible apply J.gave')
    | ((with_reducible apply J.kept'); rotate_left; (first | exact outs_au | fail))
  all_goals
    first
    | (exfalso; omega)
    | ((with_reducible apply J.endPl (x := rpl s t)); exact rfl; (exact (rp_1 (by omega)).trans (rp1_a (by assumption))); exact rfl; (intro h0; first | (simp at h0; done) | rfl))
    | ((with_reducible apply J.endPl (x := rpl s t)); exact rfl; (exact (rp_1 (by omega)).trans (rp1_b (by assumption) (by assumption))); exact rfl; (intro h0; first | (simp at h0; done) | rfl))
    | ((with_reducible apply J.endPl (x := rpl s t)); exact rfl; (exact (rp_1 (by omega)).trans (rp1_c (by assumption) (by assumption))); exact rfl; (intro h0; first | (simp at h0; done) | rfl))
    | ((with_reducible apply J.endPl (x := rpl s t)); exact rfl; (exact (rp_2 (by omega)).trans (rp2_a (by assumption))); exact rfl; (intro h0; first | (simp at h0; done) | rfl))
    | ((with_reducible apply J.endPl (x := rpl s t)); exact rfl; (exact (rp_2 (by omega)).trans (rp2_b (by assumption) (by assumption))); exact rfl; (intro h0; first | (simp at h0; done) | rfl))
    | ((with_reducible apply J.endPl (x := rpl s t)); exact rfl; (exact (rp_2 (by omega)).trans (rp2_c (by assumption) (by assumption))); exact rfl; (intro h0; first | (simp at h0; done) | rfl))
    | ((with_reducible apply J.endPl (x := rpl s t)); exact rfl; (exact (rp_2 (by omega)).trans (rp2_d (by assumption) (by assumption) (by assumption))); exact rfl; (intro h0; first | (simp at h0; done) | rfl))
    | ((with_reducible apply J.endPl (x := rpl s t)); exact rfl; (exact (rp_3 (by omega) (by omega)).trans (rp3_o (by omega))); exact rfl; (intro h0; first | (simp at h0; done) | rfl))
    | ((with_reducible apply J.endPl (x := rpl s t)); exact rfl; (exact (rp_3 (by omega) (by omega)).trans (rp3_a (by omega) (by omega) (by assumption))); exact rfl; (intro h0; first | (simp at h0; done) | rfl))
    | ((with_reducible apply J.endPl (x := rpl s t)); exact rfl; (exact (rp_3 (by omega) (by omega)).trans (rp3_b (by omega) (by omega) (by assumption) (by assumption))); exact rfl; (intro h0; first | (simp at h0; done) | rfl))
    | ((with_reducible apply J.endPl (x := rpl s t)); exact rfl; (exact (rp_3 (by omega) (by omega)).trans (rp3_c (by omega) (by omega) (by assumption) (by assumption))); exact rfl; (intro h0; first | (simp at h0; done) | rfl))
    | ((with_reducible apply J.endPl (x := rpl s t)); exact rfl; (exact (rp_3 (by omega) (by omega)).trans (rp3_d (by omega) (by omega) (by assumption) (by assumption) (by assumption))); exact rfl; (intro h0; first | (simp at h0; done) | rfl))
    | (trace_state; fail)
end Go.Proofs.YtljbedladifgmaaGreat.R12b
