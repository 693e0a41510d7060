/-
  The reference automaton: locks that are prepared, fulfilled, cancelled. No conditions.
-/
import Derived.Test.YtljbedladifgmaaGreatQR12c
namespace Go.Proofs.YtljbedladifgmaaGreat.R12d
open Go Go.RowKit Eng
set_option linter.unusedVariables false
set_option maxRecDepth 100000
set_option linter.unusedSimpArgs false
open Wide Purse Tx Sha Ss Esc Vau Lck Do Prep Ful Doo Tri App Inn Low Gene Pln Plx Sam Alv Deal Mss Ots Hash Bytes R6 R6b Lks R12 R12b R4 R4b R12c
set_option maxHeartbeats 6000000
/-- A state and an error; if there is none, with new locks. -/
def RPk (lv : Value) (L : List Lk) (x : Int × SS) : Ending → List Asrt → Prop := fun e H => (x.1 = 0 ∧ ∃ q : Option Addr × Nat, L.length ≤ q.2 ∧ e = .returned (.tuple #[.agg (x.2.cells (.slice q.1 L.length q.2)).toArray, .int .i64 0]) ∧ H = [row (.slice q.1 L.length q.2) 99 3 L.length (lcs L)]) ∨ (x.1 ≠ 0 ∧ ∃ s2 : SS, e = .returned (.tuple #[.agg (s2.cells lv).toArray, .int .i64 x.1]) ∧ H = [])
theorem J.endPk0 {c : Cx} {l : TL} {H : List Asrt} {lv : Value} {L : List Lk} {x y : Int × SS} {r : Value} {s2 : SS} {e2 : Int} (he : x = y) (hr : r = .tuple #[.agg (s2.cells lv).toArray, .int .i64 e2]) (h1 : y.1 = e2) (h0 : e2 ≠ 0) : J c l H (fun _ w => ∃ H3, RPk lv L x (.returned r) H3 ∧ Sat c.w0 c.own H3 w) := by
  subst hr he h1
  exact J.post (R := RPk lv L x) (.inr ⟨h0, s2, rfl, rfl⟩) .nil
theorem J.endPk1 {c : Cx} {l : TL} {H R : List Asrt} {lv : Value} {L : List Lk} {x y : Int × SS} {r : Value} {s2 : SS} {ao : Option Addr} {n cap : Nat} {C : List Value} (he : x = y) (hr : r = .tuple #[.agg (s2.cells (.slice ao n cap)).toArray, .int .i64 0]) (ho : Outs [row (.slice ao n cap) 99 3 n C] H R) (hn : n = L.length) (hC : C = lcs L) (h1 : y.1 = 0) (h2 : s2 = y.2) : J c l H (fun _ w => ∃ H3, RPk lv L x (.returned r) H3 ∧ Sat c.w0 c.own H3 w) := by
  subst hr he hn hC h2
  refine J.mk fun a w st => ?_
  have hq : L.length ≤ cap := by
    have h1 := st.2.2.perm ho.perm
    exact (h1.rd_row .here).2.1
  exact (J.post (R := RPk lv L x) (.inl ⟨h1, (ao, cap), hq, rfl, rfl⟩) ho).out a w st
/-- Prepared, as the automaton does it. -/
noncomputable def rpr (s : SS) (L : List Lk) (t : Tx) : Int × SS :=
  if plc L (keyT t) < 0 then (if s.time < t.ex ∧ t.ex - s.time ≤ 1024 then (if s.side = 1 then (if t.fr = t.ro then (if (lsF s.va (pl2 t.fr t.re) t.va).2 = true then (0, SS.wVa s (lsF s.va (pl2 t.fr t.re) t.va).1) else (31, s)) else (37, s)) else (if t.fr = t.us then (if (lsF s.pu (pl2 t.fr t.se) t.va).2 = true then (if (hdF (SS.wPu s (lsF s.pu (pl2 t.fr t.se) t.va).1) t.se t.va true).2 = true then (0, (hdF (SS.wPu s (lsF s.pu (pl2 t.fr t.se) t.va).1) t.se t.va true).1) else (38, s)) else (30, s)) else (37, s))) else (34, s)) else (32, s)
theorem rpr_do {s : SS} {L : List Lk} {t : Tx} (h1 : inA t.fr t.re = true) (h2 : inA t.fr t.se = true) : Same (rpr s L t) (prepX s L t) := by
  unfold rpr prepX
  split
  · split
    · split
      · split
        · rw [vaultV_e s h1]
          by_cases h3 : (lsF s.va (pl2 t.fr t.re) t.va).2 = true
          · rw [if_pos h3, if_pos h3]; exact Same.rfl' _
          · rw [if_neg h3, if_neg h3]; exact Same.err (by decide)
        · exact Same.rfl' _
      · split
        · rw [takeP_e s h2]
          by_cases h3 : (lsF s.pu (pl2 t.fr t.se) t.va).2 = true
          · rw [if_pos h3, if_pos h3, bindE_0]
            have h5 := holdH_e (SS.wPu s (lsF s.pu (pl2 t.fr t.se) t.va).1) t.se t.va
            exact same_hold _ _ _ h5.1 h5.2
          · rw [if_neg h3, if_neg h3, bindE_no (by simp)]; exact Same.err (by decide)
        · exact Same.rfl' _
    · exact Same.rfl' _
  · exact Same.rfl' _
/-- Fulfilled. -/
noncomputable def f1 (s : SS) (t : Tx) : SS := SS.wPu (SS.wPu s (mrF s.pu (pl2 t.to t.re) (wsub t.va t.fee)).1) (mrF (mrF s.pu (pl2 t.to t.re) (wsub t.va t.fee)).1 (pl2 t.fr t.re) t.fee).1
noncomputable def rful (s : SS) (L : List Lk) (t : Tx) : Int × SS :=
  if lockE L t = 0 then (if s.time < t.ex then (if t.fee ≤ t.va then (if sgF t 1 = true then (if s.side = 1 then (if (mrF s.pu (pl2 t.to t.re) (wsub t.va t.fee)).2 = true ∧ (mrF (mrF s.pu (pl2 t.to t.re) (wsub t.va t.fee)).1 (pl2 t.fr t.re) t.fee).2 = true ∧ (hdF (f1 s t) t.re t.va false).2 = true then (0, (hdF (f1 s t) t.re t.va false).1) else (38, s)) else (if (mrF s.va (pl2 t.ro t.se) t.va).2 = true then (0, SS.wVa s (mrF s.va (pl2 t.ro t.se) t.va).1) else (38, s))) else (35, s)) else (36, s)) else (34, s)) else (lockE L t, s)
theorem rful_do {s : SS} {L : List Lk} {t : Tx} (h1 : inA t.to t.re = true) (h2 : inA t.fr t.re = true) (h3 : inA t.ro t.se = true) : Same (rful s L t) (fulX s L t) := by
  unfold rful fulX
  split
  · split
    · split
      · split
        · split
          · rw [putP_e s h1]
            by_cases h4 : (mrF s.pu (pl2 t.to t.re) (wsub t.va t.fee)).2 = true
            · rw [if_pos h4, bindE_0, putP_e _ h2]
              simp only [h4, true_and]
              show Same (if (mrF (mrF s.pu (pl2 t.to t.re) (wsub t.va t.fee)).1 (pl2 t.fr t.re) t.fee).2 = true ∧ _ then _ else _) (bindE (if (mrF (mrF s.pu (pl2 t.to t.re) (wsub t.va t.fee)).1 (pl2 t.fr t.re) t.fee).2 = true then 0 else 38, f1 s t) _)
              by_cases h5 : (mrF (mrF s.pu (pl2 t.to t.re) (wsub t.va t.fee)).1 (pl2 t.fr t.re) t.fee).2 = true
              · rw [if_pos h5, bindE_0]
                simp only [h5, true_and]
                have h6 := freeH_e (f1 s t) t.re t.va
                exact same_hold _ _ _ h6.1 h6.2
              · rw [if_neg h5, if_neg (fun h => h5 h.1), bindE_no (by simp)]; exact Same.err (by decide)
            · rw [if_neg h4, if_neg (fun h => h4 h.1), bindE_no (by simp)]; exact Same.err (by decide)
          · rw [putV_e s h3]
            by_cases h4 : (mrF s.va (pl2 t.ro t.se) t.va).2 = true
            · rw [if_pos h4, if_pos h4]; exact Same.rfl' _
            · rw [if_neg h4, if_neg h4]; exact Same.err (by decide)
        · exact Same.rfl' _
      · exact Same.rfl' _
    · exact Same.rfl' _
  · exact Same.rfl' _
/-- Cancelled. -/
noncomputable def rcan (s : SS) (L : List Lk) (t : Tx) : Int × SS :=
  if lockE L t = 0 then (if s.side = 1 then (if ¬ s.time < t.ex ∨ sgF t 2 = true then (if (mrF s.va (pl2 t.ro t.re) t.va).2 = true then (0, SS.wVa s (mrF s.va (pl2 t.ro t.re) t.va).1) else (38, s)) else (35, s)) else (if ¬ s.time < t.ex ∨ t.fr = t.ro then (if (mrF s.pu (pl2 t.us t.se) t.va).2 = true ∧ (hdF (SS.wPu s (mrF s.pu (pl2 t.us t.se) t.va).1) t.se t.va false).2 = true then (0, (hdF (SS.wPu s (mrF s.pu (pl2 t.us t.se) t.va).1) t.se t.va false).1) else (38, s)) else (37, s))) else (lockE L t, s)
theorem rcan_do {s : SS} {L : List Lk} {t : Tx} (h1 : inA t.ro t.re = true) (h2 : inA t.us t.se = true) : Same (rcan s L t) (canX s L t) := by
  unfold rcan canX
  split
  · split
    · split
      · rw [putV_e s h1]
        by_cases h4 : (mrF s.va (pl2 t.ro t.re) t.va).2 = true
        · rw [if_pos h4, if_pos h4]; exact Same.rfl' _
        · rw [if_neg h4, if_neg h4]; exact Same.err (by decide)
      · exact Same.rfl' _
    · split
      · rw [putP_e s h2]
        by_cases h4 : (mrF s.pu (pl2 t.us t.se) t.va).2 = true
        · rw [if_pos h4, bindE_0]
          simp only [h4, true_and]
          have h6 := freeH_e (SS.wPu s (mrF s.pu (pl2 t.us t.se) t.va).1) t.se t.va
          exact same_hold _ _ _ h6.1 h6.2
        · rw [if_neg h4, if_neg (fun h => h4 h.1), bindE_no (by simp)]; exact Same.err (by decide)
      · exact Same.rfl' _
  · exact Same.rfl' _
/-- Where purses stand: the sums fit. -/
structure W4 (t : Tx) : Prop where
  f2 : IntKind.i64.wrap (2 * t.fr) = 2 * t.fr
  o2 : IntKind.i64.wrap (2 * t.to) = 2 * t.to
  r2 : IntKind.i64.wrap (2 * t.ro) = 2 * t.ro
  u2 : IntKind.i64.wrap (2 * t.us) = 2 * t.us
  fre : IntKind.i64.wrap (2 * t.fr + t.re) = 2 * t.fr + t.re
  ifre : 0 ≤ 2 * t.fr + t.re
  jfre : 2 * t.fr + t.re < 16
  fse : IntKind.i64.wrap (2 * t.fr + t.se) = 2 * t.fr + t.se
  ifse : 0 ≤ 2 * t.fr + t.se
  jfse : 2 * t.fr + t.se < 16
  ore : IntKind.i64.wrap (2 * t.to + t.re) = 2 * t.to + t.re
  iore : 0 ≤ 2 * t.to + t.re
  jore : 2 * t.to + t.re < 16
  rse : IntKind.i64.wrap (2 * t.ro + t.se) = 2 * t.ro + t.se
  irse : 0 ≤ 2 * t.ro + t.se
  jrse : 2 * t.ro + t.se < 16
  rre : IntKind.i64.wrap (2 * t.ro + t.re) = 2 * t.ro + t.re
  irre : 0 ≤ 2 * t.ro + t.re
  jrre : 2 * t.ro + t.re < 16
  use_ : IntKind.i64.wrap (2 * t.us + t.se) = 2 * t.us + t.se
  iuse_ : 0 ≤ 2 * t.us + t.se
  juse_ : 2 * t.us + t.se < 16
theorem t4_w {t : Tx} (h : T4 t) : W4 t := by
  obtain ⟨tva, tfee, f0, f1_, us0, us1, ro0, ro1, se0, se1, re0, re1, to0, to1, ex0, ex1⟩ := h
  constructor <;> first | exact wr64 (by omega) (by omega) rfl | omega
theorem rprep_ (s : SS) (ao : Option Addr) (n cap : Nat) (L : List Lk) (t : Tx) (w : World) (hw : (∀ j, Wd (s.pu j)) ∧ (∀ j, Wd (s.va j)) ∧ (∀ j, Wd (s.he j)) ∧ T4 t ∧ Rd w ao (lcs L) ∧ n = L.length ∧ L.length + 1 ≤ maxLen ∧ (L.length + 1) * 40 ≤ 140737488355328 ∧ 0 ≤ s.time ∧ s.time ≤ 1099511627776) : CSpec Tryz.prog 53 [.agg (s.cells (.slice ao n cap)).toArray, .agg t.cells.toArray] [] w (RPk (.slice ao n cap) (prepL L t) (rpr s L t)) := by
  obtain ⟨hp, hv, hh, ht, hL, rfl, hm1, hb1, st0, st1⟩ := hw
  have hW := t4_w ht
  have hsub : IntKind.i64.wrap (t.ex - s.time) = t.ex - s.time := wr64 (by have := ht.ex0; have := ht.ex1; omega) (by have := ht.ex0; have := ht.ex1; omega) rfl
  clear st0 st1
  have hm : L.length ≤ maxLen := by omega
  have hb : L.length * 40 ≤ 140737488355328 := by omega
  have hmz : 0 + L.length + 1 ≤ maxLen := by rw [Nat.zero_add]; exact hm1
  have hmz0 : 0 + L.length ≤ maxLen := by rw [Nat.zero_add]; exact hm
  have hbz : (0 + L.length + 1) * 40 ≤ 140737488355328 := by rw [Nat.zero_add]; exact hb1
  have hbz0 : (0 + L.length) * 40 ≤ 140737488355328 := by rw [Nat.zero_add]; exact hb
  refine spec_own0 Tryz.func53 rfl Tryz.ntmps53 rfl (l0 := [(0, .agg (s.cells (.slice ao L.length cap)).toArray), (1, .agg t.cells.toArray)]) rfl ?_
  repeat' first
    | ((with_reducible apply J.ret); exact rfl; exact rfl; (repeat (first | (with_reducible exact Res.nil) | ((with_reducible apply Res.tmp); exact rfl) | ((with_reducible apply Res.full); exact rfl; (focus ((repeat (first | with_reducible exact In.here | with_reducible apply In.there)); done)); (with_reducible exact SS.len _ _)) | ((with_reducible apply Res.cell1); exact rfl; (repeat (first | with_reducible exact In.here | with_reducible apply In.there)); exact rfl))); exact rfl)
    | (refine J.qv ?_; (with_reducible apply exq); focus (first
      | ((with_reducible apply Qv.mul); exact rfl; exact rfl; (first | exact hW.f2 | exact hW.o2 | exact hW.r2 | exact hW.u2))
      | ((with_reducible apply Qv.add); exact rfl; exact rfl; (first | exact hW.fre | exact hW.fse | exact hW.ore | exact hW.rse | exact hW.rre | exact hW.use_))
      | ((with_reducible apply Qv.sub); exact rfl; exact rfl; exact hsub)
      | ((with_reducible apply Qv.fieldAdd); exact rfl)))
    | (refine J.qr ?_; (with_reducible apply exq); focus (first
      | ((with_reducible apply Qr.ldPu); exact rfl; (focus ((repeat (first | with_reducible exact In.here | with_reducible apply In.there)); done)))
      | ((with_reducible apply Qr.ldVa); exact rfl; (focus ((repeat (first | with_reducible exact In.here | with_reducible apply In.there)); done)))
      | ((with_reducible apply Qr.ldSide); exact rfl; (focus ((repeat (first | with_reducible exact In.here | with_reducible apply In.there)); done)))
      | ((with_reducible apply Qr.ldTime); exact rfl; (focus ((repeat (first | with_reducible exact In.here | with_reducible apply In.there)); done)))
      | ((with_reducible apply Qr.ldLv); exact rfl; (focus ((repeat (first | with_reducible exact In.here | with_reducible apply In.there)); done)))
      | ((with_reducible apply Qr.loadN); exact rfl; (focus ((repeat (first | with_reducible exact In.here | with_reducible apply In.there)); done)); (with_reducible first | exact tx_am t | exact tx_va t | exact tx_fee t); with_reducible exact wv_length _)
      | ((with_reducible apply Qr.loadN); exact rfl; (focus ((repeat (first | with_reducible exact In.here | with_reducible apply In.there)); done)); (with_reducible first | exact inv_at t | exact var_at t); (with_reducible first | exact inv_len _ _ _ _ _ _ _ | exact var_len _ _))
      | ((with_reducible apply Qr.loadFull); exact rfl; (focus ((repeat (first | with_reducible exact In.here | with_reducible apply In.there)); done)); with_reducible exact tx_len _)
      | ((with_reducible apply Qr.loadFull); exact rfl; (focus ((repeat (first | with_reducible exact In.here | with_reducible apply In.there)); done)); (with_reducible first | exact wv_length _ | exact wvs_len16 _ | exact SS.len _ _))
      | ((with_reducible apply Qr.load1); exact rfl; (focus ((repeat (first | with_reducible exact In.here | with_reducible apply In.there)); done)); exact rfl)))
    | (refine J.qo ?_; refine ⟨?_, ?_⟩; focus (first
      | ((with_reducible apply Qr.ldPu); exact rfl; (focus ((repeat (first | with_reducible exact In.here | with_reducible apply In.there)); done)))
      | ((with_reducible apply Qr.ldVa); exact rfl; (focus ((repeat (first | with_reducible exact In.here | with_reducible apply In.there)); done)))
      | ((with_reducible apply Qr.ldSide); exact rfl; (focus ((repeat (first | with_reducible exact In.here | with_reducible apply In.there)); done)))
      | ((with_reducible apply Qr.ldTime); exact rfl; (focus ((repeat (first | with_reducible exact In.here | with_reducible apply In.there)); done)))
      | ((with_reducible apply Qr.ldLv); exact rfl; (focus ((repeat (first | with_reducible exact In.here | with_reducible apply In.there)); done)))
      | ((with_reducible apply Qr.loadN); exact rfl; (focus ((repeat (first | with_reducible exact In.here | with_reducible apply In.there)); done)); (with_reducible first | exact tx_am t | exact tx_va t | exact tx_fee t); with_reducible exact wv_length _)
      | ((with_reducible apply Qr.loadN); exact rfl; (focus ((repeat (first | with_reducible exact In.here | with_reducible apply In.there)); done)); (with_reducible first | exact inv_at t | exact var_at t); (with_reducible first | exact inv_len _ _ _ _ _ _ _ | exact var_len _ _))
      | ((with_reducible apply Qr.loadFull); exact rfl; (focus ((repeat (first | with_reducible exact In.here | with_reducible apply In.there)); done)); with_reducible exact tx_len _)
      | ((with_reducible apply Qr.loadFull); exact rfl; (focus ((repeat (first | with_reducible exact In.here | with_reducible apply In.there)); done)); (with_reducible first | exact wv_length _ | exact wvs_len16 _ | exact SS.len _ _))
      | ((with_reducible apply Qr.load1); exact rfl; (focus ((repeat (first | with_reducible exact In.here | with_reducible apply In.there)); done)); exact rfl)))
    | ((with_reducible apply J.buildRow0); exact rfl; intro _)
    | ((with_reducible apply J.appendR (news := lcs L)); exact rfl; exact rfl; (repeat (first | with_reducible exact Out.here | with_reducible apply Out.there)); exact rfl; exact RH.old hL; exact lcs_length L; exact lcs_ones L; exact rfl; exact rfl; exact hmz0; exact hbz0; intro q8 hq8)
    | ((with_reducible apply J.appendR); exact rfl; exact rfl; (repeat (first | with_reducible exact Out.here | with_reducible apply Out.there)); exact rfl; exact RH.blk0 (by (repeat (first | with_reducible exact In.here | with_reducible apply In.there))); exact rfl; exact rfl; exact rfl; exact rfl; exact hmz; exact hbz; intro q7 hq7)
    | ((with_reducible apply J.stLv); exact rfl; exact rfl; (repeat (first | with_reducible exact Upd.here | with_reducible apply Upd.there)))
    | ((with_reducible apply J.wPu); exact rfl; exact rfl; (repeat (first | with_reducible exact Upd.here | with_reducible apply Upd.there)))
    | ((with_reducible apply J.wVa); exact rfl; exact rfl; (repeat (first | with_reducible exact Upd.here | with_reducible apply Upd.there)))
    | ((with_reducible apply J.storeFull); exact rfl; exact rfl; (repeat (first | with_reducible exact Upd.here | with_reducible apply Upd.there)); (with_reducible first | exact wv_length _ | exact wvs_len16 _ | exact SS.len _ _); (focus (first | (with_reducible first | exact wv_length _ | exact wvs_len16 _ | exact SS.len _ _) | kernel_rfl)); (with_reducible first | exact wv_ones _ | exact wvs_ones _ _ | exact SS.ones _ _ _ _))
    | ((with_reducible apply J.storeFull); exact rfl; exact rfl; (repeat (first | with_reducible exact Upd.here | with_reducible apply Upd.there)); (with_reducible exact SS.len _ _); (focus (first | (with_reducible exact SS.len _ _) | kernel_rfl)); with_reducible exact SS.ones _ _ _ _)
    | ((with_reducible apply J.givesR (rkey t.us t.rt t.ro t.se t.re t.to t.id)); exact rfl; exact rfl; focus (exact RH.true_))
    | ((with_reducible apply J.givesR (rplace _ _ _ L (keyT t))); exact rfl; exact rfl; focus (exact RH.and (RH.old hL) (RH.of ⟨rfl, hm⟩)))
    | ((with_reducible apply J.givesR (rdigest t.us t.rt t.ro t.se t.re t.to t.id t.va t.ex)); exact rfl; exact rfl; focus (exact RH.of ht.va))
    | ((with_reducible apply J.givesR (less _ _ _)); exact rfl; exact rfl; focus (exact RH.of ⟨(by first | exact hp | exact hv | exact lsF_wd hp ht.va | exact lsF_wd hv ht.va | exact mrF_wd hp (wsub_any _ _ ht.va ht.fee) | exact mrF_wd hp ht.va), (by first | exact ht.va | exact ht.fee | exact wsub_any _ _ ht.va ht.fee), (by first | exact hW.ifre | exact hW.ifse | exact hW.iore | exact hW.irse | exact hW.irre | exact hW.iuse_), (by first | exact hW.jfre | exact hW.jfse | exact hW.jore | exact hW.jrse | exact hW.jrre | exact hW.juse_)⟩))
    | ((with_reducible apply J.givesR (more _ _ _)); exact rfl; exact rfl; focus (exact RH.of ⟨(by first | exact hp | exact hv | exact lsF_wd hp ht.va | exact lsF_wd hv ht.va | exact mrF_wd hp (wsub_any _ _ ht.va ht.fee) | exact mrF_wd hp ht.va), (by first | exact ht.va | exact ht.fee | exact wsub_any _ _ ht.va ht.fee), (by first | exact hW.ifre | exact hW.ifse | exact hW.iore | exact hW.irse | exact hW.irre | exact hW.iuse_), (by first | exact hW.jfre | exact hW.jfse | exact hW.jore | exact hW.jrse | exact hW.jrre | exact hW.juse_)⟩))
    | ((with_reducible apply J.givesR (held_t _ _ _ _)); exact rfl; exact rfl; focus (exact RH.of ⟨hh, ht.va, (by first | exact ht.se0 | exact ht.re0), (by first | exact ht.se1 | exact ht.re1), _, _, _, rfl⟩))
    | ((with_reducible apply J.givesR (held_f _ _ _ _)); exact rfl; exact rfl; focus (exact RH.of ⟨hh, ht.va, (by first | exact ht.se0 | exact ht.re0), (by first | exact ht.se1 | exact ht.re1), _, _, _, rfl⟩))
    | refine J.one ?_
    | refine J.loudS ?_
    | (refine J.loudQ ?_; intro _ _)
    | (refine J.loudB ?_; intro _)
    | (with_reducible apply J.list)
    | ((with_reducible apply J.draw (id := 21) [0, 0, 2, 7, 0, 0, 32, 0, 128, 495, 1023, 2047, 4095, 8191, 16383] (.p 1 (.q 2 (.p 4 (.p 5 (.q 6 (.p 7 (.q 8 (.x 0 (.x 3 (.x 9 (.p 10 (.x 11 (.x 12 (.p 13 (.x 14 .nil .none)) .none) .none)) .none) .none) .none)))))))) (by kernel_rfl) ?_ (by kernel_rfl) ?_); (repeat (with_reducible first | exact PanicFree.body | exact PanicFree.np | exact PanicFree.lvS | apply PanicFree.then_ | apply PanicFree.blk)))
    | ((with_reducible apply J.pl2); exact rfl; (first | exact Gd.none | ((with_reducible apply Gd.on); exact rfl; exact rfl)); (first | exact pend_au | fail))
    | ((with_reducible apply J.pl2_off); exact rfl; ((with_reducible apply Gd.off); exact rfl; exact rfl; exact rfl); exact rfl; (first | exact pend_au | fail))
    | ((with_reducible apply J.pl2_off_none); exact rfl; ((with_reducible apply Gd.off); exact rfl; exact rfl; exact rfl); (first | exact pend_au | fail))
    | ((with_reducible first | apply J.psplit0 | apply J.psplit1 | apply J.psplit2); exact rfl; exact rfl; exact rfl)
    | (with_reducible exact J.pl_none)
    | ((with_reducible apply J.gsplit); exact rfl; exact rfl)
    | ((with_reducible first | apply J.cond | apply JC.cond); exact rfl)
    | (intro h; exfalso; fail)
    | (intro h; (try simp only [decide_eq_true_eq, decide_eq_false_iff_not, beq_iff_eq, beq_eq_false_iff_ne, Bool.not_eq_true', Bool.not_eq_false', bne_iff_ne, bne_eq_false_iff_eq, ne_eq, ge_iff_le, gt_iff_lt] at h))
    | (with_reducible apply J.gave')
    | ((with_reducible apply J.kept'); rotate_left; (first | exact outs_au | fail))
  all_goals
    (simp only [retv])
    first
    | ((with_reducible apply J.endPk1 (x := rpr s L t) (y := (0, SS.wVa s (lsF s.va (pl2 t.fr t.re) t.va).1))); rotate_left; (with_reducible exact rfl); (first | exact outs_au | fail); (focus (simp [prepL])); (focus ((simp only [List.nil_append]; exact lcs_add _ _ _))); exact rfl; (with_reducible exact rfl); (focus (unfold rpr; rw [if_pos (by first | with_reducible assumption | omega | (constructor <;> first | with_reducible assumption | omega) | (refine ⟨?_, ?_, ?_⟩ <;> first | with_reducible assumption | omega) | (exact .inl (by omega)) | (exact .inr (by with_reducible assumption))), if_pos (by first | with_reducible assumption | omega | (constructor <;> first | with_reducible assumption | omega) | (refine ⟨?_, ?_, ?_⟩ <;> first | with_reducible assumption | omega) | (exact .inl (by omega)) | (exact .inr (by with_reducible assumption))), if_pos (by first | with_reducible assumption | omega | (constructor <;> first | with_reducible assumption | omega) | (refine ⟨?_, ?_, ?_⟩ <;> first | with_reducible assumption | omega) | (exact .inl (by omega)) | (exact .inr (by with_reducible assumption))), if_pos (by first | with_reducible assumption | omega | (constructor <;> first | with_reducible assumption | omega) | (refine ⟨?_, ?_, ?_⟩ <;> first | with_reducible assumption | omega) | (exact .inl (by omega)) | (exact .inr (by with_reducible assumption))), if_pos (by first | with_reducible assumption | omega | (constructor <;> first | with_reducible assumption | omega) | (refine ⟨?_, ?_, ?_⟩ <;> first | with_reducible assumption | omega) | (exact .inl (by omega)) | (exact .inr (by with_reducible assumption)))])))
    | ((with_reducible apply J.endPk1 (x := rpr s L t) (y := (0, (hdF (SS.wPu s (lsF s.pu (pl2 t.fr t.se) t.va).1) t.se t.va true).1))); rotate_left; (with_reducible exact rfl); (first | exact outs_au | fail); (focus (simp [prepL])); (focus ((simp only [List.nil_append]; exact lcs_add _ _ _))); exact rfl; (with_reducible exact rfl); (focus (unfold rpr; rw [if_pos (by first | with_reducible assumption | omega | (constructor <;> first | with_reducible assumption | omega) | (refine ⟨?_, ?_, ?_⟩ <;> first | with_reducible assumption | omega) | (exact .inl (by omega)) | (exact .inr (by with_reducible assumption))), if_pos (by first | with_reducible assumption | omega | (constructor <;> first | with_reducible assumption | omega) | (refine ⟨?_, ?_, ?_⟩ <;> first | with_reducible assumption | omega) | (exact .inl (by omega)) | (exact .inr (by with_reducible assumption))), if_neg (by first | (with_reducible refine ne_of ?_; with_reducible assumption) | with_reducible assumption | omega | (rintro ⟨h6, h7⟩; first | omega | (refine ne_of ?_ h6; with_reducible assumption) | (refine ne_of ?_ h7; with_reducible assumption)) | (rintro ⟨h6, h7, h8⟩; first | (refine ne_of ?_ h6; with_reducible assumption) | (refine ne_of ?_ h7; with_reducible assumption) | (refine ne_of ?_ h8; with_reducible assumption))), if_pos (by first | with_reducible assumption | omega | (constructor <;> first | with_reducible assumption | omega) | (refine ⟨?_, ?_, ?_⟩ <;> first | with_reducible assumption | omega) | (exact .inl (by omega)) | (exact .inr (by with_reducible assumption))), if_pos (by first | with_reducible assumption | omega | (constructor <;> first | with_reducible assumption | omega) | (refine ⟨?_, ?_, ?_⟩ <;> first | with_reducible assumption | omega) | (exact .inl (by omega)) | (exact .inr (by with_reducible assumption))), if_pos (by first | with_reducible assumption | omega | (constructor <;> first | with_reducible assumption | omega) | (refine ⟨?_, ?_, ?_⟩ <;> first | with_reducible assumption | omega) | (exact .inl (by omega)) | (exact .inr (by with_reducible assumption)))])))
    | ((with_reducible apply J.endPk0 (x := rpr s L t) (y := (32, s))); rotate_left; (with_reducible exact rfl); exact rfl; (first | decide | omega | with_reducible assumption); (focus (unfold rpr; rw [if_neg (by first | (with_reducible refine ne_of ?_; with_reducible assumption) | with_reducible assumption | omega | (rintro ⟨h6, h7⟩; first | omega | (refine ne_of ?_ h6; with_reducible assumption) | (refine ne_of ?_ h7; with_reducible assumption)) | (rintro ⟨h6, h7, h8⟩; first | (refine ne_of ?_ h6; with_reducible assumption) | (refine ne_of ?_ h7; with_reducible assumption) | (refine ne_of ?_ h8; with_reducible assumption)))])))
    | ((with_reducible apply J.endPk0 (x := rpr s L t) (y := (34, s))); rotate_left; (with_reducible exact rfl); exact rfl; (first | decide | omega | with_reducible assumption); (focus (unfold rpr; rw [if_pos (by first | with_reducible assumption | omega | (constructor <;> first | with_reducible assumption | omega) | (refine ⟨?_, ?_, ?_⟩ <;> first | with_reducible assumption | omega) | (exact .inl (by omega)) | (exact .inr (by with_reducible assumption))), if_neg (by first | (with_reducible refine ne_of ?_; with_reducible assumption) | with_reducible assumption | omega | (rintro ⟨h6, h7⟩; first | omega | (refine ne_of ?_ h6; with_reducible assumption) | (refine ne_of ?_ h7; with_reducible assumption)) | (rintro ⟨h6, h7, h8⟩; first | (refine ne_of ?_ h6; with_reducible assumption) | (refine ne_of ?_ h7; with_reducible assumption) | (refine ne_of ?_ h8; with_reducible assumption)))])))
    | ((with_reducible apply J.endPk0 (x := rpr s L t) (y := (37, s))); rotate_left; (with_reducible exact rfl); exact rfl; (first | decide | omega | with_reducible assumption); (focus (unfold rpr; rw [if_pos (by first | with_reducible assumption | omega | (constructor <;> first | with_reducible assumption | omega) | (refine ⟨?_, ?_, ?_⟩ <;> first | with_reducible assumption | omega) | (exact .inl (by omega)) | (exact .inr (by with_reducible assumption))), if_pos (by first | with_reducible assumption | omega | (constructor <;> first | with_reducible assumption | omega) | (refine ⟨?_, ?_, ?_⟩ <;> first | with_reducible assumption | omega) | (exact .inl (by omega)) | (exact .inr (by with_reducible assumption))), if_pos (by first | with_reducible assumption | omega | (constructor <;> first | with_reducible assumption | omega) | (refine ⟨?_, ?_, ?_⟩ <;> first | with_reducible assumption | omega) | (exact .inl (by omega)) | (exact .inr (by with_reducible assumption))), if_neg (by first | (with_reducible refine ne_of ?_; with_reducible assumption) | with_reducible assumption | omega | (rintro ⟨h6, h7⟩; first | omega | (refine ne_of ?_ h6; with_reducible assumption) | (refine ne_of ?_ h7; with_reducible assumption)) | (rintro ⟨h6, h7, h8⟩; first | (refine ne_of ?_ h6; with_reducible assumption) | (refine ne_of ?_ h7; with_reducible assumption) | (refine ne_of ?_ h8; with_reducible assumption)))])))
    | ((with_reducible apply J.endPk0 (x := rpr s L t) (y := (31, s))); rotate_left; (with_reducible exact rfl); exact rfl; (first | decide | omega | with_reducible assumption); (focus (unfold rpr; rw [if_pos (by first | with_reducible assumption | omega | (constructor <;> first | with_reducible assumption | omega) | (refine ⟨?_, ?_, ?_⟩ <;> first | with_reducible assumption | omega) | (exact .inl (by omega)) | (exact .inr (by with_reducible assumption))), if_pos (by first | with_reducible assumption | omega | (constructor <;> first | with_reducible assumption | omega) | (refine ⟨?_, ?_, ?_⟩ <;> first | with_reducible assumption | omega) | (exact .inl (by omega)) | (exact .inr (by with_reducible assumption))), if_pos (by first | with_reducible assumption | omega | (constructor <;> first | with_reducible assumption | omega) | (refine ⟨?_, ?_, ?_⟩ <;> first | with_reducible assumption | omega) | (exact .inl (by omega)) | (exact .inr (by with_reducible assumption))), if_pos (by first | with_reducible assumption | omega | (constructor <;> first | with_reducible assumption | omega) | (refine ⟨?_, ?_, ?_⟩ <;> first | with_reducible assumption | omega) | (exact .inl (by omega)) | (exact .inr (by with_reducible assumption))), if_neg (by first | (with_reducible refine ne_of ?_; with_reducible assumption) | with_reducible assumption | omega | (rintro ⟨h6, h7⟩; first | omega | (refine ne_of ?_ h6; with_reducible assumption) | (refine ne_of ?_ h7; with_reducible assumption)) | (rintro ⟨h6, h7, h8⟩; first | (refine ne_of ?_ h6; with_reducible assumption) | (refine ne_of ?_ h7; with_reducible assumption) | (refine ne_of ?_ h8; with_reducible assumption)))])))
    | ((with_reducible apply J.endPk0 (x := rpr s L t) (y := (37, s))); rotate_left; (with_reducible exact rfl); exact rfl; (first | decide | omega | with_reducible assumption); (focus (unfold rpr; rw [if_pos (by first | with_reducible assumption | omega | (constructor <;> first | with_reducible assumption | omega) | (refine ⟨?_, ?_, ?_⟩ <;> first | with_reducible assumption | omega) | (exact .inl (by omega)) | (exact .inr (by with_reducible assumption))), if_pos (by first | with_reducible assumption | omega | (constructor <;> first | with_reducible assumption | omega) | (refine ⟨?_, ?_, ?_⟩ <;> first | with_reducible assumption | omega) | (exact .inl (by omega)) | (exact .inr (by with_reducible assumption))), if_neg (by first | (with_reducible refine ne_of ?_; with_reducible assumption) | with_reducible assumption | omega | (rintro ⟨h6, h7⟩; first | omega | (refine ne_of ?_ h6; with_reducible assumption) | (refine ne_of ?_ h7; with_reducible assumption)) | (rintro ⟨h6, h7, h8⟩; first | (refine ne_of ?_ h6; with_reducible assumption) | (refine ne_of ?_ h7; with_reducible assumption) | (refine ne_of ?_ h8; with_reducible assumption))), if_neg (by first | (with_reducible refine ne_of ?_; with_reducible assumption) | with_reducible assumption | omega | (rintro ⟨h6, h7⟩; first | omega | (refine ne_of ?_ h6; with_reducible assumption) | (refine ne_of ?_ h7; with_reducible assumption)) | (rintro ⟨h6, h7, h8⟩; first | (refine ne_of ?_ h6; with_reducible assumption) | (refine ne_of ?_ h7; with_reducible assumption) | (refine ne_of ?_ h8; with_reducible assumption)))])))
    | ((with_reducible apply J.endPk0 (x := rpr s L t) (y := (30, s))); rotate_left; (with_reducible exact rfl); exact rfl; (first | decide | omega | with_reducible assumption); (focus (unfold rpr; rw [if_pos (by first | with_reducible assumption | omega | (constructor <;> first | with_reducible assumption | omega) | (refine ⟨?_, ?_, ?_⟩ <;> first | with_reducible assumption | omega) | (exact .inl (by omega)) | (exact .inr (by with_reducible assumption))), if_pos (by first | with_reducible assumption | omega | (constructor <;> first | with_reducible assumption | omega) | (refine ⟨?_, ?_, ?_⟩ <;> first | with_reducible assumption | omega) | (exact .inl (by omega)) | (exact .inr (by with_reducible assumption))), if_neg (by first | (with_reducible refine ne_of ?_; with_reducible assumption) | with_reducible assumption | omega | (rintro ⟨h6, h7⟩; first | omega | (refine ne_of ?_ h6; with_reducible assumption) | (refine ne_of ?_ h7; with_reducible assumption)) | (rintro ⟨h6, h7, h8⟩; first | (refine ne_of ?_ h6; with_reducible assumption) | (refine ne_of ?_ h7; with_reducible assumption) | (refine ne_of ?_ h8; with_reducible assumption))), if_pos (by first | with_reducible assumption | omega | (constructor <;> first | with_reducible assumption | omega) | (refine ⟨?_, ?_, ?_⟩ <;> first | with_reducible assumption | omega) | (exact .inl (by omega)) | (exact .inr (by with_reducible assumption))), if_neg (by first | (with_reducible refine ne_of ?_; with_reducible assumption) | with_reducible assumption | omega | (rintro ⟨h6, h7⟩; first | omega | (refine ne_of ?_ h6; with_reducible assumption) | (refine ne_of ?_ h7; with_reducible assumption)) | (rintro ⟨h6, h7, h8⟩; first | (refine ne_of ?_ h6; with_reducible assumption) | (refine ne_of ?_ h7; with_reducible assumption) | (refine ne_of ?_ h8; with_reducible assumption)))])))
    | ((with_reducible apply J.endPk0 (x := rpr s L t) (y := (38, s))); rotate_left; (with_reducible exact rfl); exact rfl; (first | decide | omega | with_reducible assumption); (focus (unfold rpr; rw [if_pos (by first | with_reducible assumption | omega | (constructor <;> first | with_reducible assumption | omega) | (refine ⟨?_, ?_, ?_⟩ <;> first | with_reducible assumption | omega) | (exact .inl (by omega)) | (exact .inr (by with_reducible assumption))), if_pos (by first | with_reducible assumption | omega | (constructor <;> first | with_reducible assumption | omega) | (refine ⟨?_, ?_, ?_⟩ <;> first | with_reducible assumption | omega) | (exact .inl (by omega)) | (exact .inr (by with_reducible assumption))), if_neg (by first | (with_reducible refine ne_of ?_; with_reducible assumption) | with_reducible assumption | omega | (rintro ⟨h6, h7⟩; first | omega | (refine ne_of ?_ h6; with_reducible assumption) | (refine ne_of ?_ h7; with_reducible assumption)) | (rintro ⟨h6, h7, h8⟩; first | (refine ne_of ?_ h6; with_reducible assumption) | (refine ne_of ?_ h7; with_reducible assumption) | (refine ne_of ?_ h8; with_reducible assumption))), if_pos (by first | with_reducible assumption | omega | (constructor <;> first | with_reducible assumption | omega) | (refine ⟨?_, ?_, ?_⟩ <;> first | with_reducible assumption | omega) | (exact .inl (by omega)) | (exact .inr (by with_reducible assumption))), if_pos (by first | with_reducible assumption | omega | (constructor <;> first | with_reducible assumption | omega) | (refine ⟨?_, ?_, ?_⟩ <;> first | with_reducible assumption | omega) | (exact .inl (by omega)) | (exact .inr (by with_reducible assumption))), if_neg (by first | (with_reducible refine ne_of ?_; with_reducible assumption) | with_reducible assumption | omega | (rintro ⟨h6, h7⟩; first | omega | (refine ne_of ?_ h6; with_reducible assumption) | (refine ne_of ?_ h7; with_reducible assumption)) | (rintro ⟨h6, h7, h8⟩; first | (refine ne_of ?_ h6; with_reducible assumption) | (refine ne_of ?_ h7; with_reducible assumption) | (refine ne_of ?_ h8; with_reducible assumption)))])))
    | (trace_state; fail)
end Go.Proofs.YtljbedladifgmaaGreat.R12d
