/-
  The reference automaton: locks that are fulfilled, cancelled. No conditions.
-/
import Derived.Test.YtljbedladifgmaaGreatQR12d
namespace Go.Proofs.YtljbedladifgmaaGreat.R12e
open Go Go.RowKit Eng
set_option linter.unusedVariables false
set_option maxRecDepth 100000
set_option linter.unusedSimpArgs false
open Wide Purse Tx Sha Ss Esc Vau Lck Do Prep Ful Doo Tri App Inn Low Gene Pln Plx Sam Alv Deal Mss Ots Hash Bytes R6 R6b Lks R12 R12b R4 R4b R12c R12d
set_option maxHeartbeats 6000000
theorem wPu_pu (s : SS) (p : Nat → Int) : (SS.wPu s p).pu = p := rfl
theorem opF_0 {L : List Lk} {t : Tx} (h : lockE L t = 0) : opF L t = (plc L (keyT t), 0) := if_pos h
theorem opF_n {L : List Lk} {t : Tx} (h : lockE L t ≠ 0) : opF L t = (0, lockE L t) := if_neg h
theorem ropn_0 (s : SS) (ao : Option Addr) (cap : Nat) (L : List Lk) (t : Tx) (k : Nat) (h : lockE L t = 0) (hk : plc L (keyT t) = (k : Int)) (w : World) (hw : Rd w ao (lcs L) ∧ L.length ≤ maxLen ∧ Wd t.va) : CSpec Tryz.prog 91 [.agg (s.cells (.slice ao L.length cap)).toArray, .agg t.cells.toArray] [] w (Gives (.tuple #[.int .i64 (k : Int), .int .i64 0])) := by
  have h2 := ropn s ao L.length cap L t w ⟨hw.1, rfl, hw.2.1, hw.2.2⟩
  rw [opF_0 h, hk] at h2
  exact h2
theorem ropn_n (s : SS) (ao : Option Addr) (cap : Nat) (L : List Lk) (t : Tx) (e : Int) (h : lockE L t = e) (h0 : e ≠ 0) (w : World) (hw : Rd w ao (lcs L) ∧ L.length ≤ maxLen ∧ Wd t.va) : CSpec Tryz.prog 91 [.agg (s.cells (.slice ao L.length cap)).toArray, .agg t.cells.toArray] [] w (Gives (.tuple #[.int .i64 0, .int .i64 e])) := by
  have h2 := ropn s ao L.length cap L t w ⟨hw.1, rfl, hw.2.1, hw.2.2⟩
  rw [opF_n (by rw [h]; exact h0), h] at h2
  exact h2
theorem rful__n (s : SS) (ao : Option Addr) (n cap : Nat) (L : List Lk) (t : Tx) (e : Int) (hl : lockE L t = e) (h0 : e ≠ 0) (w : World) (hw : (∀ j, Wd (s.pu j)) ∧ (∀ j, Wd (s.va j)) ∧ (∀ j, Wd (s.he j)) ∧ T4 t ∧ Rd w ao (lcs L) ∧ n = L.length ∧ L.length + 1 ≤ maxLen ∧ (L.length + 1) * 40 ≤ 140737488355328 ∧ 0 ≤ s.time ∧ s.time ≤ 1099511627776) : CSpec Tryz.prog 54 [.agg (s.cells (.slice ao n cap)).toArray, .agg t.cells.toArray] [] w (RPk (.slice ao n cap) (endL L t 2) (rful s L t)) := by
  obtain ⟨hp, hv, hh, ht, hL, rfl, hm1, hb1, st0, st1⟩ := hw
  have hW := t4_w ht
  have hsub : IntKind.i64.wrap (t.ex - s.time) = t.ex - s.time := wr64 (by have := ht.ex0; have := ht.ex1; omega) (by have := ht.ex0; have := ht.ex1; omega) rfl
  clear st0 st1
  have hm : L.length ≤ maxLen := by omega
  have hb : L.length * 40 ≤ 140737488355328 := by omega
  have hmz : 0 + L.length + 1 ≤ maxLen := by rw [Nat.zero_add]; exact hm1
  have hmz0 : 0 + L.length ≤ maxLen := by rw [Nat.zero_add]; exact hm
  have hbz : (0 + L.length + 1) * 40 ≤ 140737488355328 := by rw [Nat.zero_add]; exact hb1
  have hbz0 : (0 + L.length) * 40 ≤ 140737488355328 := by rw [Nat.zero_add]; exact hb
  refine spec_own0 Tryz.func54 rfl Tryz.ntmps54 rfl (l0 := [(0, .agg (s.cells (.slice ao L.length cap)).toArray), (1, .agg t.cells.toArray)]) rfl ?_
  repeat' first
    | ((with_reducible apply J.ret); exact rfl; exact rfl; (repeat (first | (with_reducible exact Res.nil) | ((with_reducible apply Res.tmp); exact rfl) | ((with_reducible apply Res.full); exact rfl; (focus ((repeat (first | with_reducible exact In.here | with_reducible apply In.there)); done)); (with_reducible exact SS.len _ _)) | ((with_reducible apply Res.cell1); exact rfl; (repeat (first | with_reducible exact In.here | with_reducible apply In.there)); exact rfl))); exact rfl)
    | (refine J.qv ?_; (with_reducible apply exq); focus (first
      | ((with_reducible apply Qv.mul); exact rfl; exact rfl; (first | exact hW.f2 | exact hW.o2 | exact hW.r2 | exact hW.u2))
      | ((with_reducible apply Qv.add); exact rfl; exact rfl; (first | exact hW.fre | exact hW.fse | exact hW.ore | exact hW.rse | exact hW.rre | exact hW.use_))
      | ((with_reducible apply Qv.fieldAdd); exact rfl)))
    | (refine J.qr ?_; (with_reducible apply exq); focus (first
      | ((with_reducible apply Qr.ldPu); exact rfl; (focus ((repeat (first | with_reducible exact In.here | with_reducible apply In.there)); done)))
      | ((with_reducible apply Qr.ldVa); exact rfl; (focus ((repeat (first | with_reducible exact In.here | with_reducible apply In.there)); done)))
      | ((with_reducible apply Qr.ldSide); exact rfl; (focus ((repeat (first | with_reducible exact In.here | with_reducible apply In.there)); done)))
      | ((with_reducible apply Qr.ldTime); exact rfl; (focus ((repeat (first | with_reducible exact In.here | with_reducible apply In.there)); done)))
      | ((with_reducible apply Qr.ldLv); exact rfl; (focus ((repeat (first | with_reducible exact In.here | with_reducible apply In.there)); done)))
      | ((with_reducible apply Qr.loadN); exact rfl; (focus ((repeat (first | with_reducible exact In.here | with_reducible apply In.there)); done)); (with_reducible first | exact tx_am t | exact tx_va t | exact tx_fee t); with_reducible exact wv_length _)
      | ((with_reducible apply Qr.loadN); exact rfl; (focus ((repeat (first | with_reducible exact In.here | with_reducible apply In.there)); done)); (with_reducible first | exact inv_at t | exact var_at t); (with_reducible first | exact inv_len _ _ _ _ _ _ _ | exact var_len _ _))
      | ((with_reducible apply Qr.loadFull); exact rfl; (focus ((repeat (first | with_reducible exact In.here | with_reducible apply In.there)); done)); with_reducible exact tx_len _)
      | ((with_reducible apply Qr.loadFull); exact rfl; (focus ((repeat (first | with_reducible exact In.here | with_reducible apply In.there)); done)); (with_reducible first | exact wv_length _ | exact wvs_len16 _ | exact SS.len _ _))
      | ((with_reducible apply Qr.load1); exact rfl; (focus ((repeat (first | with_reducible exact In.here | with_reducible apply In.there)); done)); exact rfl)))
    | ((with_reducible apply J.wPu); exact rfl; exact rfl; (repeat (first | with_reducible exact Upd.here | with_reducible apply Upd.there)))
    | ((with_reducible apply J.wVa); exact rfl; exact rfl; (repeat (first | with_reducible exact Upd.here | with_reducible apply Upd.there)))
    | ((with_reducible apply J.storeFull); exact rfl; exact rfl; (repeat (first | with_reducible exact Upd.here | with_reducible apply Upd.there)); (with_reducible first | exact wv_length _ | exact wvs_len16 _ | exact SS.len _ _); (focus (first | (with_reducible first | exact wv_length _ | exact wvs_len16 _ | exact SS.len _ _) | kernel_rfl)); (with_reducible first | exact wv_ones _ | exact wvs_ones _ _ | exact SS.ones _ _ _ _))
    | ((with_reducible apply J.storeFull); exact rfl; exact rfl; (repeat (first | with_reducible exact Upd.here | with_reducible apply Upd.there)); (with_reducible exact SS.len _ _); (focus (first | (with_reducible exact SS.len _ _) | kernel_rfl)); with_reducible exact SS.ones _ _ _ _)
    | ((with_reducible apply J.allocW); exact rfl; exact rfl; intro _)
    | ((with_reducible apply J.givesR (ropn_n _ _ _ L t e hl h0)); exact rfl; exact rfl; focus (exact RH.and (RH.old hL) (RH.of ⟨hm, ht.va⟩)))
    | ((with_reducible apply J.givesP (Ref.sub_r _ _)); exact rfl; exact rfl; exact ⟨ht.va, ht.fee⟩)
    | refine J.one ?_
    | refine J.loudS ?_
    | (refine J.loudQ ?_; intro _ _)
    | (refine J.loudB ?_; intro _)
    | (with_reducible apply J.list)
    | ((with_reducible apply J.gsplit); exact rfl; exact rfl)
    | ((with_reducible first | apply J.cond | apply JC.cond); exact rfl)
    | (intro h; exfalso; (first | (simp at h; done) | (simp [h0] at h; done)))
    | (intro h; (try simp only [decide_eq_true_eq, decide_eq_false_iff_not, beq_iff_eq, beq_eq_false_iff_ne, Bool.not_eq_true', Bool.not_eq_false', bne_iff_ne, bne_eq_false_iff_eq, ne_eq, ge_iff_le, gt_iff_lt] at h))
    | (with_reducible apply J.gave')
    | ((with_reducible apply J.kept'); rotate_left; (first | exact outs_au | fail))
  all_goals
    (try simp only [retv, wPu_pu] at *)
    first
    | ((with_reducible apply J.endPk0 (x := rful s L t) (y := (e, s))); rotate_left; (with_reducible exact rfl); exact rfl; exact h0; (focus (unfold rful; rw [if_neg (by rw [hl]; exact h0), hl])))
    | (trace_state; fail)
theorem rful__y (s : SS) (ao : Option Addr) (n cap : Nat) (L : List Lk) (t : Tx) (k : Nat) (hl : lockE L t = 0) (hk : plc L (keyT t) = (k : Int)) (hkl : k < L.length) (w : World) (hw : (∀ j, Wd (s.pu j)) ∧ (∀ j, Wd (s.va j)) ∧ (∀ j, Wd (s.he j)) ∧ T4 t ∧ Rd w ao (lcs L) ∧ n = L.length ∧ L.length + 1 ≤ maxLen ∧ (L.length + 1) * 40 ≤ 140737488355328 ∧ 0 ≤ s.time ∧ s.time ≤ 1099511627776) : CSpec Tryz.prog 54 [.agg (s.cells (.slice ao n cap)).toArray, .agg t.cells.toArray] [] w (RPk (.slice ao n cap) (endL L t 2) (rful s L t)) := by
  obtain ⟨hp, hv, hh, ht, hL, rfl, hm1, hb1, st0, st1⟩ := hw
  have hW := t4_w ht
  have hsub : IntKind.i64.wrap (t.ex - s.time) = t.ex - s.time := wr64 (by have := ht.ex0; have := ht.ex1; omega) (by have := ht.ex0; have := ht.ex1; omega) rfl
  clear st0 st1
  have hm : L.length ≤ maxLen := by omega
  have hb : L.length * 40 ≤ 140737488355328 := by omega
  have hmz : 0 + L.length + 1 ≤ maxLen := by rw [Nat.zero_add]; exact hm1
  have hmz0 : 0 + L.length ≤ maxLen := by rw [Nat.zero_add]; exact hm
  have hbz : (0 + L.length + 1) * 40 ≤ 140737488355328 := by rw [Nat.zero_add]; exact hb1
  have hbz0 : (0 + L.length) * 40 ≤ 140737488355328 := by rw [Nat.zero_add]; exact hb
  have hel : endL L t 2 = stL L k 2 := by unfold endL; rw [hk]; rfl
  rw [hel]
  refine spec_own0 Tryz.func54 rfl Tryz.ntmps54 rfl (l0 := [(0, .agg (s.cells (.slice ao L.length cap)).toArray), (1, .agg t.cells.toArray)]) rfl ?_
  repeat' first
    | ((with_reducible apply J.ret); exact rfl; exact rfl; (repeat (first | (with_reducible exact Res.nil) | ((with_reducible apply Res.tmp); exact rfl) | ((with_reducible apply Res.full); exact rfl; (focus ((repeat (first | with_reducible exact In.here | with_reducible apply In.there)); done)); (with_reducible exact SS.len _ _)) | ((with_reducible apply Res.cell1); exact rfl; (repeat (first | with_reducible exact In.here | with_reducible apply In.there)); exact rfl))); exact rfl)
    | (refine J.qv ?_; (with_reducible apply exq); focus (first
      | ((with_reducible apply Qv.mul); exact rfl; exact rfl; (first | exact hW.f2 | exact hW.o2 | exact hW.r2 | exact hW.u2))
      | ((with_reducible apply Qv.add); exact rfl; exact rfl; (first | exact hW.fre | exact hW.fse | exact hW.ore | exact hW.rse | exact hW.rre | exact hW.use_))
      | ((with_reducible apply Qv.fieldAdd); exact rfl)))
    | (refine J.qr ?_; (with_reducible apply exq); focus (first
      | ((with_reducible apply Qr.ldPu); exact rfl; (focus ((repeat (first | with_reducible exact In.here | with_reducible apply In.there)); done)))
      | ((with_reducible apply Qr.ldVa); exact rfl; (focus ((repeat (first | with_reducible exact In.here | with_reducible apply In.there)); done)))
      | ((with_reducible apply Qr.ldSide); exact rfl; (focus ((repeat (first | with_reducible exact In.here | with_reducible apply In.there)); done)))
      | ((with_reducible apply Qr.ldTime); exact rfl; (focus ((repeat (first | with_reducible exact In.here | with_reducible apply In.there)); done)))
      | ((with_reducible apply Qr.ldLv); exact rfl; (focus ((repeat (first | with_reducible exact In.here | with_reducible apply In.there)); done)))
      | ((with_reducible apply Qr.loadN); exact rfl; (focus ((repeat (first | with_reducible exact In.here | with_reducible apply In.there)); done)); (with_reducible first | exact tx_am t | exact tx_va t | exact tx_fee t); with_reducible exact wv_length _)
      | ((with_reducible apply Qr.loadN); exact rfl; (focus ((repeat (first | with_reducible exact In.here | with_reducible apply In.there)); done)); (with_reducible first | exact inv_at t | exact var_at t); (with_reducible first | exact inv_len _ _ _ _ _ _ _ | exact var_len _ _))
      | ((with_reducible apply Qr.loadFull); exact rfl; (focus ((repeat (first | with_reducible exact In.here | with_reducible apply In.there)); done)); with_reducible exact tx_len _)
      | ((with_reducible apply Qr.loadFull); exact rfl; (focus ((repeat (first | with_reducible exact In.here | with_reducible apply In.there)); done)); (with_reducible first | exact wv_length _ | exact wvs_len16 _ | exact SS.len _ _))
      | ((with_reducible apply Qr.load1); exact rfl; (focus ((repeat (first | with_reducible exact In.here | with_reducible apply In.there)); done)); exact rfl)))
    | ((with_reducible apply J.wPu); exact rfl; exact rfl; (repeat (first | with_reducible exact Upd.here | with_reducible apply Upd.there)))
    | ((with_reducible apply J.wVa); exact rfl; exact rfl; (repeat (first | with_reducible exact Upd.here | with_reducible apply Upd.there)))
    | ((with_reducible apply J.storeFull); exact rfl; exact rfl; (repeat (first | with_reducible exact Upd.here | with_reducible apply Upd.there)); (with_reducible first | exact wv_length _ | exact wvs_len16 _ | exact SS.len _ _); (focus (first | (with_reducible first | exact wv_length _ | exact wvs_len16 _ | exact SS.len _ _) | kernel_rfl)); (with_reducible first | exact wv_ones _ | exact wvs_ones _ _ | exact SS.ones _ _ _ _))
    | ((with_reducible apply J.storeFull); exact rfl; exact rfl; (repeat (first | with_reducible exact Upd.here | with_reducible apply Upd.there)); (with_reducible exact SS.len _ _); (focus (first | (with_reducible exact SS.len _ _) | kernel_rfl)); with_reducible exact SS.ones _ _ _ _)
    | ((with_reducible apply J.allocW); exact rfl; exact rfl; intro _)
    | ((with_reducible apply J.givesR (ropn_0 _ _ _ L t k hl hk)); exact rfl; exact rfl; focus (exact RH.and (RH.old hL) (RH.of ⟨hm, ht.va⟩)))
    | ((with_reducible apply J.givesP (Ref.sub_r _ _)); exact rfl; exact rfl; exact ⟨ht.va, ht.fee⟩)
    | ((with_reducible apply J.givesR (rsigned t _)); exact rfl; exact rfl; focus (exact RH.of ht.fee))
    | ((with_reducible apply J.givesR (less _ _ _)); exact rfl; exact rfl; focus (exact RH.of ⟨(by first | exact hp | exact hv | exact lsF_wd hp ht.va | exact lsF_wd hv ht.va | exact mrF_wd hp (wsub_any _ _ ht.va ht.fee) | exact mrF_wd hp ht.va), (by first | exact ht.va | exact ht.fee | exact wsub_any _ _ ht.va ht.fee), (by first | exact hW.ifre | exact hW.ifse | exact hW.iore | exact hW.irse | exact hW.irre | exact hW.iuse_), (by first | exact hW.jfre | exact hW.jfse | exact hW.jore | exact hW.jrse | exact hW.jrre | exact hW.juse_)⟩))
    | ((with_reducible apply J.givesR (more _ _ _)); exact rfl; exact rfl; focus (exact RH.of ⟨(by first | exact hp | exact hv | exact lsF_wd hp ht.va | exact lsF_wd hv ht.va | exact mrF_wd hp (wsub_any _ _ ht.va ht.fee) | exact mrF_wd hp ht.va), (by first | exact ht.va | exact ht.fee | exact wsub_any _ _ ht.va ht.fee), (by first | exact hW.ifre | exact hW.ifse | exact hW.iore | exact hW.irse | exact hW.irre | exact hW.iuse_), (by first | exact hW.jfre | exact hW.jfse | exact hW.jore | exact hW.jrse | exact hW.jrre | exact hW.juse_)⟩))
    | ((with_reducible apply J.givesR (held_t _ _ _ _)); exact rfl; exact rfl; focus (exact RH.of ⟨hh, ht.va, (by first | exact ht.se0 | exact ht.re0), (by first | exact ht.se1 | exact ht.re1), _, _, _, rfl⟩))
    | ((with_reducible apply J.givesR (held_f _ _ _ _)); exact rfl; exact rfl; focus (exact RH.of ⟨hh, ht.va, (by first | exact ht.se0 | exact ht.re0), (by first | exact ht.se1 | exact ht.re1), _, _, _, rfl⟩))
    | ((with_reducible apply J.stV (rended _ _ _ _ L k 2)); exact rfl; exact rfl; (exact RH.and (RH.old hL) (RH.of ⟨rfl, hkl, hm, hb⟩)); intro q9 hq9)
    | refine J.one ?_
    | refine J.loudS ?_
    | (refine J.loudQ ?_; intro _ _)
    | (refine J.loudB ?_; intro _)
    | (with_reducible apply J.list)
    | ((with_reducible apply J.gsplit); exact rfl; exact rfl)
    | ((with_reducible first | apply J.cond | apply JC.cond); exact rfl)
    | (intro h; exfalso; (simp at h; done))
    | (intro h; (try simp only [decide_eq_true_eq, decide_eq_false_iff_not, beq_iff_eq, beq_eq_false_iff_ne, Bool.not_eq_true', Bool.not_eq_false', bne_iff_ne, bne_eq_false_iff_eq, ne_eq, ge_iff_le, gt_iff_lt] at h))
    | (with_reducible apply J.gave')
    | ((with_reducible apply J.kept'); rotate_left; (first | exact outs_au | fail))
  all_goals
    (try simp only [retv, wPu_pu] at *)
    first
    | ((with_reducible apply J.endPk1 (x := rful s L t) (y := (0, (hdF (SS.wPu (SS.wPu s (mrF s.pu (pl2 t.to t.re) (wsub t.va t.fee)).1) (mrF (mrF s.pu (pl2 t.to t.re) (wsub t.va t.fee)).1 (pl2 t.fr t.re) t.fee).1) t.re t.va false).1))); rotate_left; (with_reducible exact rfl); (first | exact outs_au | fail); (focus (rfl)); (focus (rfl)); exact rfl; (with_reducible exact rfl); (focus (unfold rful f1; rw [if_pos hl, if_pos (by first | with_reducible assumption | omega | (constructor <;> first | with_reducible assumption | omega) | (refine ⟨?_, ?_, ?_⟩ <;> first | with_reducible assumption | omega) | (exact .inl (by omega)) | (exact .inr (by with_reducible assumption))), if_pos (by first | with_reducible assumption | omega | (constructor <;> first | with_reducible assumption | omega) | (refine ⟨?_, ?_, ?_⟩ <;> first | with_reducible assumption | omega) | (exact .inl (by omega)) | (exact .inr (by with_reducible assumption))), if_pos (by first | with_reducible assumption | omega | (constructor <;> first | with_reducible assumption | omega) | (refine ⟨?_, ?_, ?_⟩ <;> first | with_reducible assumption | omega) | (exact .inl (by omega)) | (exact .inr (by with_reducible assumption))), if_pos (by first | with_reducible assumption | omega | (constructor <;> first | with_reducible assumption | omega) | (refine ⟨?_, ?_, ?_⟩ <;> first | with_reducible assumption | omega) | (exact .inl (by omega)) | (exact .inr (by with_reducible assumption))), if_pos (by first | with_reducible assumption | omega | (constructor <;> first | with_reducible assumption | omega) | (refine ⟨?_, ?_, ?_⟩ <;> first | with_reducible assumption | omega) | (exact .inl (by omega)) | (exact .inr (by with_reducible assumption)))])))
    | ((with_reducible apply J.endPk1 (x := rful s L t) (y := (0, SS.wVa s (mrF s.va (pl2 t.ro t.se) t.va).1))); rotate_left; (with_reducible exact rfl); (first | exact outs_au | fail); (focus (rfl)); (focus (rfl)); exact rfl; (with_reducible exact rfl); (focus (unfold rful f1; rw [if_pos hl, if_pos (by first | with_reducible assumption | omega | (constructor <;> first | with_reducible assumption | omega) | (refine ⟨?_, ?_, ?_⟩ <;> first | with_reducible assumption | omega) | (exact .inl (by omega)) | (exact .inr (by with_reducible assumption))), if_pos (by first | with_reducible assumption | omega | (constructor <;> first | with_reducible assumption | omega) | (refine ⟨?_, ?_, ?_⟩ <;> first | with_reducible assumption | omega) | (exact .inl (by omega)) | (exact .inr (by with_reducible assumption))), if_pos (by first | with_reducible assumption | omega | (constructor <;> first | with_reducible assumption | omega) | (refine ⟨?_, ?_, ?_⟩ <;> first | with_reducible assumption | omega) | (exact .inl (by omega)) | (exact .inr (by with_reducible assumption))), if_neg (by first | (with_reducible refine ne_of ?_; with_reducible assumption) | with_reducible assumption | omega | (rintro ⟨h6, h7⟩; first | omega | (refine ne_of ?_ h6; with_reducible assumption) | (refine ne_of ?_ h7; with_reducible assumption)) | (rintro ⟨h6, h7, h8⟩; first | (refine ne_of ?_ h6; with_reducible assumption) | (refine ne_of ?_ h7; with_reducible assumption) | (refine ne_of ?_ h8; with_reducible assumption))), if_pos (by first | with_reducible assumption | omega | (constructor <;> first | with_reducible assumption | omega) | (refine ⟨?_, ?_, ?_⟩ <;> first | with_reducible assumption | omega) | (exact .inl (by omega)) | (exact .inr (by with_reducible assumption)))])))
    | ((with_reducible apply J.endPk0 (x := rful s L t) (y := (34, s))); rotate_left; (with_reducible exact rfl); exact rfl; (first | decide | omega | with_reducible assumption); (focus (unfold rful f1; rw [if_pos hl, if_neg (by first | (with_reducible refine ne_of ?_; with_reducible assumption) | with_reducible assumption | omega | (rintro ⟨h6, h7⟩; first | omega | (refine ne_of ?_ h6; with_reducible assumption) | (refine ne_of ?_ h7; with_reducible assumption)) | (rintro ⟨h6, h7, h8⟩; first | (refine ne_of ?_ h6; with_reducible assumption) | (refine ne_of ?_ h7; with_reducible assumption) | (refine ne_of ?_ h8; with_reducible assumption)))])))
    | ((with_reducible apply J.endPk0 (x := rful s L t) (y := (36, s))); rotate_left; (with_reducible exact rfl); exact rfl; (first | decide | omega | with_reducible assumption); (focus (unfold rful f1; rw [if_pos hl, if_pos (by first | with_reducible assumption | omega | (constructor <;> first | with_reducible assumption | omega) | (refine ⟨?_, ?_, ?_⟩ <;> first | with_reducible assumption | omega) | (exact .inl (by omega)) | (exact .inr (by with_reducible assumption))), if_neg (by first | (with_reducible refine ne_of ?_; with_reducible assumption) | with_reducible assumption | omega | (rintro ⟨h6, h7⟩; first | omega | (refine ne_of ?_ h6; with_reducible assumption) | (refine ne_of ?_ h7; with_reducible assumption)) | (rintro ⟨h6, h7, h8⟩; first | (refine ne_of ?_ h6; with_reducible assumption) | (refine ne_of ?_ h7; with_reducible assumption) | (refine ne_of ?_ h8; with_reducible assumption)))])))
    | ((with_reducible apply J.endPk0 (x := rful s L t) (y := (35, s))); rotate_left; (with_reducible exact rfl); exact rfl; (first | decide | omega | with_reducible assumption); (focus (unfold rful f1; rw [if_pos hl, if_pos (by first | with_reducible assumption | omega | (constructor <;> first | with_reducible assumption | omega) | (refine ⟨?_, ?_, ?_⟩ <;> first | with_reducible assumption | omega) | (exact .inl (by omega)) | (exact .inr (by with_reducible assumption))), if_pos (by first | with_reducible assumption | omega | (constructor <;> first | with_reducible assumption | omega) | (refine ⟨?_, ?_, ?_⟩ <;> first | with_reducible assumption | omega) | (exact .inl (by omega)) | (exact .inr (by with_reducible assumption))), if_neg (by first | (with_reducible refine ne_of ?_; with_reducible assumption) | with_reducible assumption | omega | (rintro ⟨h6, h7⟩; first | omega | (refine ne_of ?_ h6; with_reducible assumption) | (refine ne_of ?_ h7; with_reducible assumption)) | (rintro ⟨h6, h7, h8⟩; first | (refine ne_of ?_ h6; with_reducible assumption) | (refine ne_of ?_ h7; with_reducible assumption) | (refine ne_of ?_ h8; with_reducible assumption)))])))
    | ((with_reducible apply J.endPk0 (x := rful s L t) (y := (38, s))); rotate_left; (with_reducible exact rfl); exact rfl; (first | decide | omega | with_reducible assumption); (focus (unfold rful f1; rw [if_pos hl, if_pos (by first | with_reducible assumption | omega | (constructor <;> first | with_reducible assumption | omega) | (refine ⟨?_, ?_, ?_⟩ <;> first | with_reducible assumption | omega) | (exact .inl (by omega)) | (exact .inr (by with_reducible assumption))), if_pos (by first | with_reducible assumption | omega | (constructor <;> first | with_reducible assumption | omega) | (refine ⟨?_, ?_, ?_⟩ <;> first | with_reducible assumption | omega) | (exact .inl (by omega)) | (exact .inr (by with_reducible assumption))), if_pos (by first | with_reducible assumption | omega | (constructor <;> first | with_reducible assumption | omega) | (refine ⟨?_, ?_, ?_⟩ <;> first | with_reducible assumption | omega) | (exact .inl (by omega)) | (exact .inr (by with_reducible assumption))), if_pos (by first | with_reducible assumption | omega | (constructor <;> first | with_reducible assumption | omega) | (refine ⟨?_, ?_, ?_⟩ <;> first | with_reducible assumption | omega) | (exact .inl (by omega)) | (exact .inr (by with_reducible assumption))), if_neg (by first | (with_reducible refine ne_of ?_; with_reducible assumption) | with_reducible assumption | omega | (rintro ⟨h6, h7⟩; first | omega | (refine ne_of ?_ h6; with_reducible assumption) | (refine ne_of ?_ h7; with_reducible assumption)) | (rintro ⟨h6, h7, h8⟩; first | (refine ne_of ?_ h6; with_reducible assumption) | (refine ne_of ?_ h7; with_reducible assumption) | (refine ne_of ?_ h8; with_reducible assumption)))])))
    | ((with_reducible apply J.endPk0 (x := rful s L t) (y := (38, s))); rotate_left; (with_reducible exact rfl); exact rfl; (first | decide | omega | with_reducible assumption); (focus (unfold rful f1; rw [if_pos hl, if_pos (by first | with_reducible assumption | omega | (constructor <;> first | with_reducible assumption | omega) | (refine ⟨?_, ?_, ?_⟩ <;> first | with_reducible assumption | omega) | (exact .inl (by omega)) | (exact .inr (by with_reducible assumption))), if_pos (by first | with_reducible assumption | omega | (constructor <;> first | with_reducible assumption | omega) | (refine ⟨?_, ?_, ?_⟩ <;> first | with_reducible assumption | omega) | (exact .inl (by omega)) | (exact .inr (by with_reducible assumption))), if_pos (by first | with_reducible assumption | omega | (constructor <;> first | with_reducible assumption | omega) | (refine ⟨?_, ?_, ?_⟩ <;> first | with_reducible assumption | omega) | (exact .inl (by omega)) | (exact .inr (by with_reducible assumption))), if_neg (by first | (with_reducible refine ne_of ?_; with_reducible assumption) | with_reducible assumption | omega | (rintro ⟨h6, h7⟩; first | omega | (refine ne_of ?_ h6; with_reducible assumption) | (refine ne_of ?_ h7; with_reducible assumption)) | (rintro ⟨h6, h7, h8⟩; first | (refine ne_of ?_ h6; with_reducible assumption) | (refine ne_of ?_ h7; with_reducible assumption) | (refine ne_of ?_ h8; with_reducible assumption))), if_neg (by first | (with_reducible refine ne_of ?_; with_reducible assumption) | with_reducible assumption | omega | (rintro ⟨h6, h7⟩; first | omega | (refine ne_of ?_ h6; with_reducible assumption) | (refine ne_of ?_ h7; with_reducible assumption)) | (rintro ⟨h6, h7, h8⟩; first | (refine ne_of ?_ h6; with_reducible assumption) | (refine ne_of ?_ h7; with_reducible assumption) | (refine ne_of ?_ h8; with_reducible assumption)))])))
    | (trace_state; fail)
end Go.Proofs.YtljbedladifgmaaGreat.R12e
