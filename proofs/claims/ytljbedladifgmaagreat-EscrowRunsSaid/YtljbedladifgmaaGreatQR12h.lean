/-
  The reference automaton: what a transaction comes to. No conditions.
-/
import Derived.Test.YtljbedladifgmaaGreatQR12g
namespace Go.Proofs.YtljbedladifgmaaGreat.R12h
open Go Go.RowKit Eng
set_option linter.unusedVariables false
set_option maxRecDepth 100000
set_option linter.unusedSimpArgs false
open Wide Purse Tx Sha Ss Esc Vau Lck Do Prep Ful Doo Tri App Inn Low Gene Pln Plx Sam Alv Deal Mss Ots Hash Bytes R6 R6b Lks R12 R12b R4 R4b R12c R12d R12e R12f R12g
set_option maxHeartbeats 6000000
theorem inB_of {n a b : Int} (h : inB n a b = true) : a ≤ n ∧ n ≤ b := by
  unfold inB at h
  simpa using h
theorem chk_ki {t : Tx} (h : chk t = 0) : 1 ≤ t.ki ∧ t.ki ≤ 6 := by
  unfold chk at h
  split at h
  · omega
  · rename_i h1
    exact inB_of (by simpa using h1)
theorem t4_of {t : Tx} (h : TIn t) (hc : chk t = 0) (hk : 4 ≤ t.ki) : T4 t := by
  have hf := chk_fr hc
  unfold chk at hc
  split at hc
  · omega
  · split at hc
    · omega
    · rw [if_neg (by omega)] at hc
      split at hc
      · rename_i h1; exact absurd hc h1
      · split at hc
        · rename_i h1; exact absurd hc h1
        · rename_i h6 h7
          have h8 : invE t.us t.rt t.ro t.se t.re t.to t.id = 0 := by simpa using h6
          have h9 : sndE t.va t.ex = 0 := by simpa using h7
          unfold invE at h8
          unfold sndE at h9
          split at h8
          · rename_i h10
            split at h9
            · rename_i h11
              obtain ⟨a1, a2, a3, a4, a5, _⟩ := h10
              exact ⟨h.i.va, h.fee, hf.1, hf.2, (inB_of a1).1, (inB_of a1).2, (inB_of a2).1, (inB_of a2).2, (inB_of a3).1, (inB_of a3).2, (inB_of a4).1, (inB_of a4).2, (inB_of a5).1, (inB_of a5).2, (inB_of h11.2).1, (inB_of h11.2).2⟩
            · exact absurd h9 (by decide)
          · exact absurd h8 (by decide)
theorem tp_of {t : Tx} (h : TIn t) (hc : chk t = 0) (hk : ¬ 4 ≤ t.ki) : (1 ≤ t.ki ∧ t.ki ≤ 3) ∧ Wd t.am ∧ 0 ≤ t.fr ∧ t.fr ≤ 7 ∧ 0 ≤ t.at_ ∧ t.at_ ≤ 1 ∧ (t.ki = 1 → 0 ≤ t.to ∧ t.to ≤ 7) ∧ (t.ki = 2 → 2 ≤ t.ro ∧ t.ro ≤ 3) := by
  have hf := chk_fr hc
  have hi := chk_ki hc
  have ha := tok_of h hc
  refine ⟨⟨hi.1, by omega⟩, h.i.am, hf.1, hf.2, ha.at0, ha.at1, ?_, ?_⟩
  all_goals
    intro h1
    unfold chk at hc
    split at hc
    · omega
    · split at hc
      · omega
      · rw [if_pos (by omega)] at hc
        unfold rtE at hc
        split at hc
        · omega
        · split at hc
          · omega
          · split at hc
            · omega
            · rename_i h3 h4
              first
                | exact inB_of (by simpa [h1] using h3)
                | exact inB_of (by simpa [h1] using h4)
theorem less0 (ns : Nat → Int) (fr : Int) (w : World) (hw : (∀ j, Wd (ns j)) ∧ 0 ≤ fr ∧ fr ≤ 7) : CSpec Tryz.prog 51 [.agg (wvs ns 16).toArray, .int .i64 (2 * fr), .agg (wv 1).toArray] [] w (Gives (.tuple #[.agg (wvs (tkR ns fr 0 1).1 16).toArray, .bool (decide ((tkR ns fr 0 1).2 = 0))])) := by
  have h1 := less ns (2 * fr) 1 w ⟨hw.1, by unfold Wd; omega, by omega, by omega⟩
  have e : (2 * fr).toNat = pl2 fr 0 := by unfold pl2; rw [Int.add_zero]
  rw [e] at h1
  rw [tk_ls (inA_of hw.2.1 hw.2.2 (by decide) (by decide))]
  have e2 : decide ((if (lsF ns (pl2 fr 0) 1).2 = true then (0 : Int) else 30) = 0) = (lsF ns (pl2 fr 0) 1).2 := by
    cases (lsF ns (pl2 fr 0) 1).2 <;> simp
  dsimp only
  rw [e2]
  exact h1
/-- What it comes to: without new locks, or with them. -/
def RAp (lv : Value) (L : List Lk) (a : Ap) : Ending → List Asrt → Prop := fun e H => (∃ q : Option Addr × Nat, a.L.length ≤ q.2 ∧ e = .returned (.tuple #[.agg (a.s.cells (.slice q.1 a.L.length q.2)).toArray, .int .i64 a.e, .bool a.ok]) ∧ H = [row (.slice q.1 a.L.length q.2) 99 3 a.L.length (lcs a.L)]) ∨ (a.L = L ∧ e = .returned (.tuple #[.agg (a.s.cells lv).toArray, .int .i64 a.e, .bool a.ok]) ∧ H = [])
theorem J.endRA0 {c : Cx} {l : TL} {H : List Asrt} {lv : Value} {L : List Lk} {a : Ap} {r : Value} (hL : a.L = L) (hr : r = .tuple #[.agg (a.s.cells lv).toArray, .int .i64 a.e, .bool a.ok]) : J c l H (fun _ w => ∃ H3, RAp lv L a (.returned r) H3 ∧ Sat c.w0 c.own H3 w) := by
  subst hr
  exact J.post (R := RAp lv L a) (.inr ⟨hL, rfl, rfl⟩) .nil
theorem J.endRA1 {c : Cx} {l : TL} {H R : List Asrt} {lv : Value} {L : List Lk} {ap : Ap} {n cap : Nat} {ao : Option Addr} {C : List Value} {r : Value} (ho : Outs [row (.slice ao n cap) 99 3 n C] H R) (hn : n = ap.L.length) (hC : C = lcs ap.L) (hr : r = .tuple #[.agg (ap.s.cells (.slice ao n cap)).toArray, .int .i64 ap.e, .bool ap.ok]) : J c l H (fun _ w => ∃ H3, RAp lv L ap (.returned r) H3 ∧ Sat c.w0 c.own H3 w) := by
  subst hn hC hr
  refine J.mk fun a w st => ?_
  have hq : ap.L.length ≤ cap := by
    have h1 := st.2.2.perm ho.perm
    exact (h1.rd_row .here).2.1
  exact (J.post (R := RAp lv L ap) (.inl ⟨(ao, cap), hq, rfl, rfl⟩) ho).out a w st
section
variable {P : Program} {c : Cx} {l : TL} {H : List Asrt} {Q : Exit → Act → World → Prop} {X : Act → World → Prop}
variable {ty : TypeId} {pos : String} {af : Array Edge} {d : Nat} {v : Value} {dst : Option Tmp} {mm : Nat}
theorem J.rpkE {f : Nat} [i : Eng.Enters P f] {xs : List Operand} {ts : Array TypeId} {vs : List Value} {x : Int × SS} {lv : Value} {L : List Lk} {pre : World → Prop} (hS : ∀ w, pre w → CSpec P f vs [] w (RPk lv L x)) (hd : Nat.blt d c.n = true) (hx : evs l xs = some vs) (hp : RH c.w0 c.own H pre)
    (K : x.1 = 0 → ∀ q : Option Addr × Nat, L.length ≤ q.2 → J c ((d, .tuple #[.agg (x.2.cells (.slice q.1 L.length q.2)).toArray, .int .i64 0]) :: l) (row (.slice q.1 L.length q.2) 99 3 L.length (lcs L) :: H) X)
    (K2 : x.1 ≠ 0 → ∀ s2 : SS, J c ((d, .tuple #[.agg (s2.cells lv).toArray, .int .i64 x.1]) :: l) H X) : J c l H (OW P Q ⟨some d, .call ⟨.value (.func f), xs.toArray, ts⟩, ty, pos, af, none⟩ X) :=
  J.callS hd hx .nil (fun w s => hS w (hp w s))
    (fun v H3 h => by
      rcases h with ⟨h0, q, hq, h1, h2⟩ | ⟨h0, s2, h1, h2⟩
      · cases h1; subst h2; exact K h0 q hq
      · cases h1; subst h2; exact K2 h0 s2)
    (fun ch H3 h => by
      rcases h with ⟨h0, q, hq, h1, h2⟩ | ⟨h0, s2, h1, h2⟩ <;> cases h1)
    (fun H3 h => by
      rcases h with ⟨h0, q, hq, h1, h2⟩ | ⟨h0, s2, h1, h2⟩ <;> cases h1)
theorem J.rplE {f : Nat} [i : Eng.Enters P f] {xs : List Operand} {ts : Array TypeId} {vs : List Value} {x : Int × SS} {lv : Value} {pre : World → Prop} (hS : ∀ w, pre w → CSpec P f vs [] w (RPl lv x)) (hd : Nat.blt d c.n = true) (hx : evs l xs = some vs) (hp : RH c.w0 c.own H pre)
    (K : x.1 = 0 → J c ((d, .tuple #[.agg (x.2.cells lv).toArray, .int .i64 0]) :: l) H X)
    (K2 : x.1 ≠ 0 → ∀ s2 : SS, J c ((d, .tuple #[.agg (s2.cells lv).toArray, .int .i64 x.1]) :: l) H X) : J c l H (OW P Q ⟨some d, .call ⟨.value (.func f), xs.toArray, ts⟩, ty, pos, af, none⟩ X) :=
  J.callS hd hx .nil (fun w s => hS w (hp w s))
    (fun v H3 h => by
      obtain ⟨s2, h0, h1, h2⟩ := h
      by_cases h3 : x.1 = 0
      · rw [h0 h3, h3] at h1
        cases h1; subst h2; exact K h3
      · cases h1; subst h2; exact K2 h3 s2)
    (fun ch H3 h => by obtain ⟨s2, h0, h1, h2⟩ := h; cases h1)
    (fun H3 h => by obtain ⟨s2, h0, h1, h2⟩ := h; cases h1)
theorem J.stS1 {T : Nat} {z : List Value} [i : Ty P T false 1 z] {x y : Operand} {b : Nat} {s : SS} {t : Tx} {lv : Value} {E : TypeId} {H' : List Asrt} {k : Nat} {p : Int} (hx : ev l x = some (.pointer (some ⟨b, 130 + k, none⟩))) (hy : ev l y = some (.int .i64 p)) (hu : Upd (blk b (SS.cells (SS.wBu (SS.wPu s (tkR s.pu t.fr 0 1).1) (wadd s.bu 1)) lv) E) (blk b (SS.cells (s1F s t) lv) E) H H') (hk : k < 8) (e : k = t.fr.toNat) (hp : p = s.no t.fr.toNat + 1) (K : J c l H' X) : J c l H (OW P Q ⟨none, .store T x y, ty, pos, af, none⟩ X) := by
  subst e hp
  exact J.stNo (s := (SS.wBu (SS.wPu s (tkR s.pu t.fr 0 1).1) (wadd s.bu 1))) (k := t.fr.toNat) (p := s.no t.fr.toNat + 1) hx hy hu hk K
end
theorem rprep_d (s : SS) (ao : Option Addr) (cap : Nat) (L : List Lk) (t : Tx) (hk : t.ki = 4) (w : World) (hw : Rd w ao (lcs L) ∧ SOk s ∧ T4 t ∧ (s.side = 0 ∨ s.side = 1) ∧ L.length + 1 ≤ maxLen ∧ (L.length + 1) * 40 ≤ 140737488355328) : CSpec Tryz.prog 53 [.agg (s.cells (.slice ao L.length cap)).toArray, .agg t.cells.toArray] [] w (RPk (.slice ao L.length cap) (doL L t) (doX s L t)) := by
  obtain ⟨hr, h1, ht, hs, hm, hb⟩ := hw
  rw [doL_4 hk, doX_4 hk]
  exact rprep_c s ao _ cap L t w ⟨h1.pu, h1.va, h1.he, ht, hr, rfl, hm, hb, h1.t0, h1.t1⟩
theorem rful_d (s : SS) (ao : Option Addr) (cap : Nat) (L : List Lk) (t : Tx) (hk : t.ki = 5) (w : World) (hw : Rd w ao (lcs L) ∧ SOk s ∧ T4 t ∧ (s.side = 0 ∨ s.side = 1) ∧ L.length + 1 ≤ maxLen ∧ (L.length + 1) * 40 ≤ 140737488355328) : CSpec Tryz.prog 54 [.agg (s.cells (.slice ao L.length cap)).toArray, .agg t.cells.toArray] [] w (RPk (.slice ao L.length cap) (doL L t) (doX s L t)) := by
  obtain ⟨hr, h1, ht, hs, hm, hb⟩ := hw
  rw [doL_5 hk, doX_5 hk]
  exact rful_c s ao _ cap L t w ⟨h1.pu, h1.va, h1.he, ht, hr, rfl, hm, hb, h1.t0, h1.t1⟩
theorem rcan_d (s : SS) (ao : Option Addr) (cap : Nat) (L : List Lk) (t : Tx) (hk : t.ki = 6) (w : World) (hw : Rd w ao (lcs L) ∧ SOk s ∧ T4 t ∧ (s.side = 0 ∨ s.side = 1) ∧ L.length + 1 ≤ maxLen ∧ (L.length + 1) * 40 ≤ 140737488355328) : CSpec Tryz.prog 55 [.agg (s.cells (.slice ao L.length cap)).toArray, .agg t.cells.toArray] [] w (RPk (.slice ao L.length cap) (doL L t) (doX s L t)) := by
  obtain ⟨hr, h1, ht, hs, hm, hb⟩ := hw
  rw [doL_6 hk, doX_6 hk]
  exact rcan_c s ao _ cap L t w ⟨h1.pu, h1.va, h1.he, ht, hr, rfl, hm, hb, h1.t0, h1.t1, hs⟩
theorem rplain_d (s : SS) (ao : Option Addr) (cap : Nat) (L : List Lk) (t : Tx) (w : World) (hw : SOk s ∧ TIn t ∧ chk t = 0 ∧ ¬ 4 ≤ t.ki) : CSpec Tryz.prog 56 [.agg (s.cells (.slice ao L.length cap)).toArray, .agg t.cells.toArray] [] w (RPl (.slice ao L.length cap) (doX s L t)) := by
  obtain ⟨h1, ht, hc, hk⟩ := hw
  obtain ⟨k1, k2⟩ := tp_of ht hc hk
  exact rplain_c s ao _ cap L t k1 w ⟨h1.pu, h1.va, h1.he, k2⟩
theorem rap (s : SS) (ao : Option Addr) (cap : Nat) (L : List Lk) (t : Tx) (w : World) (hw : Rd w ao (lcs L) ∧ SOk s ∧ TIn t ∧ (s.side = 0 ∨ s.side = 1) ∧ L.length + 1 ≤ maxLen ∧ (L.length + 1) * 40 ≤ 140737488355328) : CSpec Tryz.prog 16 [.agg (s.cells (.slice ao L.length cap)).toArray, .agg t.cells.toArray] [] w (RAp (.slice ao L.length cap) L (apF s L t)) := by
  obtain ⟨hr, hs, ht, hsd, hm1, hb⟩ := hw
  refine spec_own0 Tryz.func16 rfl Tryz.ntmps16 rfl (l0 := [(0, .agg (s.cells (.slice ao L.length cap)).toArray), (1, .agg t.cells.toArray)]) rfl ?_
  repeat' first
    | ((with_reducible apply J.ret); exact rfl; exact rfl; (repeat (first | (with_reducible exact Res.nil) | ((with_reducible apply Res.tmp); exact rfl) | ((with_reducible apply Res.full); exact rfl; (focus ((repeat (first | with_reducible exact In.here | with_reducible apply In.there)); done)); (with_reducible exact SS.len _ _)) | ((with_reducible apply Res.cell1); exact rfl; (repeat (first | with_reducible exact In.here | with_reducible apply In.there)); exact rfl))); exact rfl)
    | ((with_reducible apply J.seqCut (id := 10) (α := Nat × Nat × Nat × List Value) (p := fun x => List.length x.2.2.2 = 151) (L := fun x => [(2, .pointer (some ⟨x.1, 0, none⟩)), (3, .pointer (some ⟨x.2.1, 0, none⟩)), (4, .pointer (some ⟨x.2.2.1, 0, none⟩)), (5, .int .i64 0), (6, .bool false)]) (HH := fun x => [blk x.1 (SS.cells (SS.wBu (SS.wPu s (tkR s.pu t.fr 0 1).1) (wadd s.bu 1)) (.slice ao L.length cap)) 39, blk x.2.1 t.cells 50, blk x.2.2.1 x.2.2.2 39])); rotate_left; rintro ⟨b2, b3, b4, z4⟩ hz4; (try dsimp only))
    | ((with_reducible apply J.meet (?_, ?_, ?_, ?_)); (case hs => ((try dsimp only); repeat (first | exact sub.nil _ | (refine sub.consE rfl ?_ ?_; (first | with_reducible rfl | (fail) | rfl))))); (case ho => ((try dsimp only); (first | exact outs_au | fail); done)); (case hp => (first | exact hz4 | kernel_rfl)))
    | (refine J.qv ?_; (with_reducible apply exq); focus (first
      | ((with_reducible apply Qv.idxNo); exact rfl; exact rfl; (have h7 := chk_fr (by assumption); constructor <;> omega))
      | ((with_reducible apply Qv.add); exact rfl; exact rfl; exact wr64 (by have h7 := chk_no (by assumption); dsimp only [SS.wBu, SS.wPu]; omega) (by have h7 := chk_no (by assumption); dsimp only [SS.wBu, SS.wPu]; omega) rfl)
      | ((with_reducible apply Qv.mul); exact rfl; exact rfl; exact wr64 (by have h7 := chk_fr (by assumption); omega) (by have h7 := chk_fr (by assumption); omega) rfl)))
    | (refine J.qr ?_; (with_reducible apply exq); focus (first
      | ((with_reducible apply Qr.ldNo); exact rfl; (focus ((repeat (first | with_reducible exact In.here | with_reducible apply In.there)); done)); (have h7 := chk_fr (by assumption); omega))
      | ((with_reducible first | apply Qr.ldPu | apply Qr.ldBu); exact rfl; (focus ((repeat (first | with_reducible exact In.here | with_reducible apply In.there)); done)))
      | ((with_reducible apply Qr.load1); exact rfl; (focus ((repeat (first | with_reducible exact In.here | with_reducible apply In.there)); done)); exact rfl)
      | ((with_reducible apply Qr.loadFull); exact rfl; (focus ((repeat (first | with_reducible exact In.here | with_reducible apply In.there)); done)); (with_reducible first | exact wv_length _ | exact wvs_len16 _ | exact SS.len _ _ | exact tx_len _))))
    | (refine J.qo ?_; refine ⟨?_, ?_⟩; focus (first
      | ((with_reducible apply Qr.ldNo); exact rfl; (focus ((repeat (first | with_reducible exact In.here | with_reducible apply In.there)); done)); (have h7 := chk_fr (by assumption); omega))
      | ((with_reducible first | apply Qr.ldPu | apply Qr.ldBu); exact rfl; (focus ((repeat (first | with_reducible exact In.here | with_reducible apply In.there)); done)))
      | ((with_reducible apply Qr.load1); exact rfl; (focus ((repeat (first | with_reducible exact In.here | with_reducible apply In.there)); done)); exact rfl)
      | ((with_reducible apply Qr.loadFull); exact rfl; (focus ((repeat (first | with_reducible exact In.here | with_reducible apply In.there)); done)); (with_reducible first | exact wv_length _ | exact wvs_len16 _ | exact SS.len _ _ | exact tx_len _))))
    | ((with_reducible apply J.wPu); exact rfl; exact rfl; (repeat (first | with_reducible exact Upd.here | with_reducible apply Upd.there)))
    | ((with_reducible apply J.wBu); exact rfl; exact rfl; (repeat (first | with_reducible exact Upd.here | with_reducible apply Upd.there)))
    | ((with_reducible apply J.stS1 (s := s) (t := t)); exact rfl; exact rfl; (repeat (first | with_reducible exact Upd.here | with_reducible apply Upd.there)); (have h7 := chk_fr (by assumption); omega); exact rfl; exact rfl)
    | ((with_reducible apply J.storeFull); exact rfl; exact rfl; (repeat (first | with_reducible exact Upd.here | with_reducible apply Upd.there)); (with_reducible first | exact wv_length _ | exact wvs_len16 _ | exact SS.len _ _); (focus (first | (with_reducible first | exact wv_length _ | exact wvs_len16 _ | exact SS.len _ _ | exact hz4) | kernel_rfl)); (with_reducible first | exact wv_ones _ | exact wvs_ones _ _ | exact SS.ones _ _ _ _))
    | ((with_reducible apply J.storeFull); exact rfl; exact rfl; (repeat (first | with_reducible exact Upd.here | with_reducible apply Upd.there)); (with_reducible exact SS.len _ _); (focus (first | (with_reducible exact SS.len _ _) | kernel_rfl)); with_reducible exact SS.ones _ _ _ _)
    | ((with_reducible apply J.givesR (rtx t)); exact rfl; exact rfl; focus (exact RH.of ht.i))
    | ((with_reducible apply J.givesR (less0 _ t.fr)); exact rfl; exact rfl; focus (exact RH.of ⟨hs.pu, (chk_fr (by assumption)).1, (chk_fr (by assumption)).2⟩))
    | ((with_reducible apply J.givesP (Ref.add_r _ 1)); exact rfl; exact rfl; (exact ⟨hs.bu, by unfold Wd; omega⟩))
    | ((with_reducible apply J.rpkE (rprep_d (s1F s t) _ _ L t (by assumption))); exact rfl; exact rfl; (exact RH.and (RH.old hr) (RH.of ⟨s1F_ok (t := t) hs, t4_of ht (by assumption) (by omega), hsd, hm1, hb⟩)); intro h7 q7 hq7; rotate_left; intro h7 s7)
    | ((with_reducible apply J.rpkE (rful_d (s1F s t) _ _ L t (by assumption))); exact rfl; exact rfl; (exact RH.and (RH.old hr) (RH.of ⟨s1F_ok (t := t) hs, t4_of ht (by assumption) (by omega), hsd, hm1, hb⟩)); intro h7 q7 hq7; rotate_left; intro h7 s7)
    | ((with_reducible apply J.rpkE (rcan_d (s1F s t) _ _ L t (by assumption))); exact rfl; exact rfl; (exact RH.and (RH.old hr) (RH.of ⟨s1F_ok (t := t) hs, t4_of ht (by assumption) (by omega), hsd, hm1, hb⟩)); intro h7 q7 hq7; rotate_left; intro h7 s7)
    | ((with_reducible apply J.rplE (rplain_d (s1F s t) _ _ L t)); exact rfl; exact rfl; (exact RH.of ⟨s1F_ok (t := t) hs, ht, (by assumption), (by have := chk_ki (t := t) (by assumption); omega)⟩); intro h7; rotate_left; intro h7 s7)
    | refine J.one ?_
    | refine J.loudS ?_
    | (refine J.loudQ ?_; intro _ _)
    | (refine J.loudB ?_; intro _)
    | (with_reducible apply J.list)
    | ((with_reducible apply J.draw (id := 4) [0, 1, 0, 4, 0, 28, 60, 127] (.p 0 (.q 1 (.p 2 (.q 3 (.p 4 (.p 5 (.q 6 (.p 7 .nil)))))))) (by kernel_rfl) ?_ (by kernel_rfl) ?_); (repeat (with_reducible first | exact PanicFree.body | exact PanicFree.np | exact PanicFree.lvS | apply PanicFree.then_ | apply PanicFree.blk)))
    | ((with_reducible apply J.draw (id := 10) [0, 0, 1, 5, 15, 31] (.q 0 (.q 1 (.p 2 (.x 3 (.p 4 (.x 5 .nil .none)) .none)))) (by kernel_rfl) ?_ (by kernel_rfl) ?_); (repeat (with_reducible first | exact PanicFree.body | exact PanicFree.np | exact PanicFree.lvS | apply PanicFree.then_ | apply PanicFree.blk)))
    | ((with_reducible apply J.pl2); exact rfl; (first | exact Gd.none | ((with_reducible apply Gd.on); exact rfl; exact rfl)); (first | exact pend_au | fail))
    | ((with_reducible apply J.pl2_off); exact rfl; ((with_reducible apply Gd.off); exact rfl; exact rfl; exact rfl); exact rfl; (first | exact pend_au | fail))
    | ((with_reducible apply J.pl2_off_none); exact rfl; ((with_reducible apply Gd.off); exact rfl; exact rfl; exact rfl); (first | exact pend_au | fail))
    | ((with_reducible first | apply J.psplit0 | apply J.psplit1 | apply J.psplit2); exact rfl; exact rfl; exact rfl)
    | (with_reducible exact J.pl_none)
    | ((with_reducible apply J.gsplit); exact rfl; exact rfl)
    | ((with_reducible first | apply J.cond | apply JC.cond); exact rfl)
    | (intro h; exfalso; (first | (simp at h; done) | (simp at h; omega) | omega))
    | (intro h; (try simp only [decide_eq_true_eq, decide_eq_false_iff_not, beq_iff_eq, beq_eq_false_iff_ne, Bool.not_eq_true', Bool.not_eq_false', bne_iff_ne, bne_eq_false_iff_eq, ne_eq, ge_iff_le, gt_iff_lt] at h))
    | (with_reducible apply J.gave')
    | ((with_reducible apply J.kept'); rotate_left; (first | exact outs_au | fail))
  all_goals first
    | (have e := show apF s L t = _ from (if_neg (by with_reducible assumption))
       rw [e]
       (with_reducible apply J.endRA0)
       · first | with_reducible rfl | (exact doL_0 (by omega))
       · first | rfl | (simp only [*]; rfl))
    | (have e := show apF s L t = _ from ((if_pos (by with_reducible assumption)).trans (if_neg (by with_reducible assumption)))
       rw [e]
       (with_reducible apply J.endRA0)
       · first | with_reducible rfl | (exact doL_0 (by omega))
       · first | rfl | (simp only [*]; rfl))
    | (have e := show apF s L t = _ from ((((if_pos (by with_reducible assumption)).trans (if_pos (by with_reducible assumption))).trans (if_pos ⟨(by with_reducible assumption), (by with_reducible assumption)⟩)).trans (if_neg (by with_reducible assumption)))
       rw [e]
       (with_reducible apply J.endRA0)
       · first | with_reducible rfl | (exact doL_0 (by omega))
       · first | rfl | (simp only [*]; rfl))
    | (have e := show apF s L t = _ from ((((if_pos (by with_reducible assumption)).trans (if_pos (by with_reducible assumption))).trans (if_pos ⟨(by with_reducible assumption), (by with_reducible assumption)⟩)).trans (if_pos (by with_reducible assumption)))
       rw [e]
       (with_reducible apply J.endRA0)
       · first | with_reducible rfl | (exact doL_0 (by omega))
       · first | rfl | (simp only [*]; rfl))
    | (have e := show apF s L t = _ from ((((if_pos (by with_reducible assumption)).trans (if_pos (by with_reducible assumption))).trans (if_pos ⟨(by with_reducible assumption), (by with_reducible assumption)⟩)).trans (if_pos (by with_reducible assumption)))
       rw [e]
       (with_reducible apply J.endRA1)
       · (first | exact outs_au | fail)
       · rfl
       · rfl
       · first | rfl | (simp only [*]; rfl))
    | (have e := show apF s L t = _ from (((if_pos (by with_reducible assumption)).trans (if_pos (by with_reducible assumption))).trans (if_neg (fun h9 => by first | exact absurd h9.1 (by with_reducible assumption) | exact absurd h9.2 (by with_reducible assumption))))
       rw [e]
       (with_reducible apply J.endRA0)
       · first | with_reducible rfl | (exact doL_0 (by omega))
       · first | rfl | (simp only [*]; rfl))
    | (trace_state; fail)
end Go.Proofs.YtljbedladifgmaaGreat.R12h
