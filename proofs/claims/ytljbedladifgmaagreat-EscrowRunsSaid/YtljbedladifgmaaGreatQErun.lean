/-
  The law EscrowRuns. No conditions.
-/
import Derived.Test.YtljbedladifgmaaGreatQR12h
import Derived.Test.YtljbedladifgmaaGreatQCix
import Derived.Test.YtljbedladifgmaaGreatQCut
namespace Go.Proofs.YtljbedladifgmaaGreat.Erun
open Go Go.RowKit Eng
set_option linter.unusedVariables false
set_option maxRecDepth 100000
set_option linter.unusedSimpArgs false
open Wide Purse Tx Sha Ss Esc Vau Lck Do Prep Ful Doo Tri App Inn Low Gene Pln Plx Sam Alv Deal Mss Ots Hash Bytes R6 R6b Lks R12 R12b R4 R4b R12c R12d R12e R12f R12g R12h Kee Txl Cix
set_option maxHeartbeats 6000000
theorem reads_one {W : World} {v : Value} {sh : Sh} (h : Sh.Reads W (.sl [sh]) v) : ∃ (ao : Option Addr) (n cap : Nat) (C : Nat → Value), v = .slice ao n cap ∧ n ≤ cap ∧ cap ≤ maxLen ∧ (∀ i, i < n → Sh.Reads W sh (C i)) ∧ Rd W ao (tab C n) := by
  simp only [Sh.Reads] at h
  rcases h with rfl | ⟨a, len, cap, rfl, h1, h2, C, hC⟩
  · exact ⟨none, 0, 0, fun _ => .bool true, rfl, Nat.le_refl _, Nat.zero_le _, fun i hi => by omega, Rd.nil _ _⟩
  · have key : ∀ i, i < len → ∃ u, C i = [u] ∧ Sh.Reads W sh u := fun i hi => by
      have h3 := (hC i hi).1
      simp only [Sh.ReadsL] at h3
      obtain ⟨u, r, e, h4, h5⟩ := h3
      exact ⟨u, by rw [e, h5], h4⟩
    refine ⟨some a, len, cap, fun i => (C i).headD (.bool true), rfl, h1, h2, fun i hi => ?_, Rd.some_ fun j u hj => ?_⟩
    · obtain ⟨u, e, h4⟩ := key i hi
      show Sh.Reads W sh ((C i).headD _)
      rw [e]
      exact h4
    · have hjl : j < len := by
        rcases Nat.lt_or_ge j len with h3 | h3
        · exact h3
        · rw [List.getElem?_eq_none (by rw [tab_length]; exact h3)] at hj
          cases hj
      rw [tab_get hjl] at hj
      obtain ⟨x, e, _⟩ := key j hjl
      rw [e] at hj
      have h5 := (hC j hjl).2 0 u (by rw [e]; exact hj)
      simpa using h5
theorem reads_ints {W : World} {v : Value} (h : Sh.Reads W (.sl [.int .i64]) v) : ∃ (ao : Option Addr) (n cap : Nat) (F : Nat → Int), v = .slice ao n cap ∧ Rd W ao (tab (fun j => .int .i64 (F j)) n) ∧ (∀ i, i < n → -9223372036854775808 ≤ F i ∧ F i ≤ 9223372036854775807) ∧ n ≤ maxLen := by
  obtain ⟨ao, n, cap, C, e, h1, h2, h3, h4⟩ := reads_one h
  have key : ∀ i, ∃ x : Int, i < n → C i = .int .i64 x ∧ -9223372036854775808 ≤ x ∧ x ≤ 9223372036854775807 := fun i => by
    rcases Nat.lt_or_ge i n with h5 | h5
    · have h6 := h3 i h5
      simp only [Sh.Reads] at h6
      obtain ⟨x, e1, e2⟩ := h6
      refine ⟨x, fun _ => ⟨e1, ?_⟩⟩
      simp [Lit.wf, IntKind.min, IntKind.max, IntKind.signed, IntKind.bits] at e2
      omega
    · exact ⟨0, fun h => by omega⟩
  refine ⟨ao, n, cap, fun i => (key i).choose, e, ?_, fun i hi => ((key i).choose_spec hi).2, Nat.le_trans h1 h2⟩
  have e2 : tab (fun j => Value.int .i64 (key j).choose) n = tab C n := tab_same fun j hj => ((key j).choose_spec hj).1.symm
  rw [e2]
  exact h4
/-- So much later. -/
def gpF (x : Int) : Int := (x.tmod 50 + 50).tmod 50
theorem gp_eq (x : Int) : (x.tmod 50 + 50).tmod 50 = gpF x := rfl
theorem gp_t (x : Int) : -50 < x.tmod 50 ∧ x.tmod 50 < 50 := by
  have h1 := Int.tmod_lt_of_pos x (b := 50) (by decide)
  have h2 := Int.lt_tmod_of_pos x (b := 50) (by decide)
  omega
theorem gp_b (x : Int) : 0 ≤ gpF x ∧ gpF x < 50 := by
  have h0 := gp_t x
  have h1 := Int.tmod_lt_of_pos (x.tmod 50 + 50) (b := 50) (by decide)
  have h2 := Int.tmod_nonneg 50 (a := x.tmod 50 + 50) (by omega)
  exact ⟨h2, h1⟩
theorem rise_t {s : SS} (h : SOk s) {k : Int} (hk : 0 ≤ k ∧ k < 50) (lv : Value) : SS.cells { s with time := imin (s.time + k) 1099511627776 } lv = (riseS s k).cells lv := by
  have e : imin (s.time + k) 1099511627776 = s.time + imin (imax k 0) (imax (1099511627776 - s.time) 0) := by
    have h0 := h.t0
    have h1 := h.t1
    obtain ⟨h2, h3⟩ := hk
    unfold imin imax
    (repeat' split) <;> omega
  rw [e]
  rfl
theorem ris_in {s : SS} (hi : SIn s) (hs : SOk s) (k : Int) : SIn (riseS s k) := sok_in hi (riseS_ok hs) rfl hi.no
theorem gen_side {a : Int} (h : a = 0 ∨ a = 1) (tm : Int) : (genS a tm).side = a := by
  show imin (imax a 0) 1 = a
  unfold imin imax
  rcases h with rfl | rfl <;> decide
theorem rap_c (s : SS) (ao : Option Addr) (cap : Nat) (L : List Lk) (t : Tx) (a : Ap) (h : apF s L t = a) (w : World) (hw : Rd w ao (lcs L) ∧ SOk s ∧ TIn t ∧ (s.side = 0 ∨ s.side = 1) ∧ L.length + 1 ≤ maxLen ∧ (L.length + 1) * 40 ≤ 140737488355328) : CSpec Tryz.prog 16 [.agg (s.cells (.slice ao L.length cap)).toArray, .agg t.cells.toArray] [] w (RAp (.slice ao L.length cap) L a) := h ▸ rap s ao cap L t w hw
section
variable {P : Program} {c : Cx} {l : TL} {H : List Asrt} {Q : Exit → Act → World → Prop} {X : Act → World → Prop}
variable {ty : TypeId} {pos : String} {af : Array Edge} {d : Nat} {v : Value} {dst : Option Tmp} {mm : Nat}
theorem J.rapE {f : Nat} [i : Eng.Enters P f] {xs : List Operand} {ts : Array TypeId} {vs : List Value} {lv : Value} {L : List Lk} {a : Ap} {pre : World → Prop} (hS : ∀ w, pre w → CSpec P f vs [] w (RAp lv L a)) (hd : Nat.blt d c.n = true) (hx : evs l xs = some vs) (hp : RH c.w0 c.own H pre)
    (K : ∀ q : Option Addr × Nat, a.L.length ≤ q.2 → J c ((d, .tuple #[.agg (a.s.cells (.slice q.1 a.L.length q.2)).toArray, .int .i64 a.e, .bool a.ok]) :: l) (row (.slice q.1 a.L.length q.2) 99 3 a.L.length (lcs a.L) :: H) X)
    (K2 : a.L = L → J c ((d, .tuple #[.agg (a.s.cells lv).toArray, .int .i64 a.e, .bool a.ok]) :: l) H X) : J c l H (OW P Q ⟨some d, .call ⟨.value (.func f), xs.toArray, ts⟩, ty, pos, af, none⟩ X) :=
  J.callS hd hx .nil (fun w s => hS w (hp w s))
    (fun v H3 h => by
      rcases h with ⟨q, hq, h1, h2⟩ | ⟨h0, h1, h2⟩
      · cases h1; subst h2; exact K q hq
      · cases h1; subst h2; exact K2 h0)
    (fun ch H3 h => by
      rcases h with ⟨q, hq, h1, h2⟩ | ⟨h0, h1, h2⟩ <;> cases h1)
    (fun H3 h => by
      rcases h with ⟨q, hq, h1, h2⟩ | ⟨h0, h1, h2⟩ <;> cases h1)
end
theorem num_ (x : Int) (w : World) (hw : True) : CSpec Tryz.prog 18 [.int .i64 x] [] w (Gives (.int .i64 x)) := by
  refine spec_own0 Tryz.func18 rfl Tryz.ntmps18 rfl (l0 := [(0, .int .i64 x)]) rfl ?_
  repeat' first
    | refine J.one ?_
    | refine J.loudS ?_
    | (refine J.loudQ ?_; intro _ _)
    | (refine J.loudB ?_; intro _)
    | (with_reducible apply J.list)
    | ((with_reducible apply J.gsplit); exact rfl; exact rfl)
    | ((with_reducible first | apply J.cond | apply JC.cond); exact rfl)
    | (intro h; exfalso; (first | (simp at h; done) | (simp at h; omega)))
    | (intro h; (try simp only [decide_eq_true_eq, decide_eq_false_iff_not, beq_iff_eq, beq_eq_false_iff_ne, Bool.not_eq_true', Bool.not_eq_false', bne_iff_ne, bne_eq_false_iff_eq, ne_eq, ge_iff_le, gt_iff_lt] at h))
    | (with_reducible apply J.gave')
    | ((with_reducible apply J.kept'); rotate_left; (first | exact outs_au | fail))
  all_goals (rfl)
theorem runs (wh : Bool) (tm : Int) (ao ag : Option Addr) (cap ng cg : Nat) (T : List Tx) (G : Nat → Int) (w : World) (hw : Rd w ao (txc T) ∧ TsIn T ∧ T.length ≤ maxLen ∧ Rd w ag (tab (fun j => .int .i64 (G j)) ng) ∧ (∀ i, i < ng → -9223372036854775808 ≤ G i ∧ G i ≤ 9223372036854775807) ∧ ng ≤ maxLen) : CSpec Tryz.prog 3 [.bool wh, .int .i64 tm, .slice ao T.length cap, .slice ag ng cg] [] w (Gives (.bool true)) := by
  obtain ⟨hr, hT, hm, hrg, hG, hmg⟩ := hw
  have hm9 : T.length ≤ 9223372036854775807 := by unfold maxLen at hm; omega
  have hg9 : ng ≤ 9223372036854775807 := by unfold maxLen at hmg; omega
  have hao : 0 < T.length → ao.isSome = true := txs_some hr
  have hag : 0 < ng → ag.isSome = true := fun h => hrg.isSome fun e => by
    have h8 : (tab (fun j => Value.int .i64 (G j)) ng).length = ng := tab_length _
    rw [e] at h8
    simp at h8
    omega
  refine spec_own0 Tryz.func3 rfl Tryz.ntmps3 rfl (l0 := [(0, .bool wh), (1, .int .i64 tm), (2, .slice ao T.length cap), (3, .slice ag ng cg)]) rfl ?_
  repeat' first
    | ((with_reducible apply J.cutS (id := 4) (α := Int) (p := fun x => x = 0 ∨ x = 1) (L := fun x => [(1, .int .i64 tm), (2, .slice ao T.length cap), (3, .slice ag ng cg), (9, .int .i64 x)]) (HH := fun x => [])); rotate_left; rintro side hsd0; (change side = 0 ∨ side = 1 at hsd0); (try dsimp only))
    | (refine J.qr ?_; (with_reducible apply exq); focus (first
      | ((with_reducible apply Qr.loadFull); exact rfl; (focus ((repeat (first | with_reducible exact In.here | with_reducible apply In.there)); done)); (with_reducible first | exact SS.len _ _ | exact tx_len _))))
    | (refine J.qo ?_; refine ⟨?_, ?_⟩; focus (first
      | ((with_reducible apply Qr.loadFull); exact rfl; (focus ((repeat (first | with_reducible exact In.here | with_reducible apply In.there)); done)); (with_reducible first | exact SS.len _ _ | exact tx_len _))))
    | ((with_reducible apply J.storeFull); exact rfl; exact rfl; (repeat (first | with_reducible exact Upd.here | with_reducible apply Upd.there)); (with_reducible exact SS.len _ _); (focus (first | (with_reducible exact SS.len _ _) | kernel_rfl)); with_reducible exact SS.ones _ _ _ _)
    | ((with_reducible apply J.givesW (alive12)); exact rfl; exact rfl)
    | ((with_reducible apply J.givesW (gen_ _ _)); exact rfl; exact rfl)
    | ((with_reducible apply J.stV (plain_ (genS side tm) none 0 [])); exact rfl; exact rfl; (exact RH.and RH.nil (RH.of ⟨Nat.zero_le _, Nat.zero_le _⟩)); intro q8 hq8)
    | refine J.one ?_
    | refine J.loudS ?_
    | (refine J.loudQ ?_; intro _ _)
    | (refine J.loudB ?_; intro _)
    | (with_reducible apply J.list)
    | ((with_reducible apply J.draw (id := 15) [0, 0, 0, 6, 14, 31, 63, 127, 127, 127, 0, 1279, 3583, 8191] (.q 0 (.p 1 (.p 2 (.p 3 (.q 4 (.x 5 (.p 6 (.p 7 (.p 8 (.p 9 (.x 10 (.x 11 (.p 12 (.p 13 .nil)) .none) .none))))) (.x 10 (.x 5 (.p 6 (.p 7 (.p 8 (.p 9 (.x 11 (.p 12 (.p 13 .nil)) .none))))) .none) .none))))))) (by kernel_rfl) ?_ (by kernel_rfl) ?_); (repeat (with_reducible first | exact PanicFree.body | exact PanicFree.np | exact PanicFree.lvS | apply PanicFree.then_ | apply PanicFree.blk)))
    | ((with_reducible apply J.draw (id := 16) [0, 0, 0, 6, 14, 31, 63, 127, 127, 127, 0, 1279, 3583, 8191] (.q 0 (.p 1 (.p 2 (.p 3 (.q 4 (.x 5 (.p 6 (.p 7 (.p 8 (.p 9 (.x 10 (.x 11 (.p 12 (.p 13 .nil)) .none) .none))))) (.x 10 (.x 5 (.p 6 (.p 7 (.p 8 (.p 9 (.x 11 (.p 12 (.p 13 .nil)) .none))))) .none) .none))))))) (by kernel_rfl) ?_ (by kernel_rfl) ?_); (repeat (with_reducible first | exact PanicFree.body | exact PanicFree.np | exact PanicFree.lvS | apply PanicFree.then_ | apply PanicFree.blk)))
    | ((with_reducible apply J.draw (id := 17) [0, 1, 0, 7, 15, 31, 63, 127, 63, 511, 1023, 2047, 4095, 4095, 16383, 32767] (.q 0 (.q 2 (.x 1 (.x 3 (.p 4 (.p 5 (.p 6 (.p 8 (.x 7 (.p 9 (.p 10 (.p 11 (.p 12 (.p 13 (.p 14 (.p 15 .nil))))))) .none))))) .none) .none))) (by kernel_rfl) ?_ (by kernel_rfl) ?_); (repeat (with_reducible first | exact PanicFree.body | exact PanicFree.np | exact PanicFree.lvS | apply PanicFree.then_ | apply PanicFree.blk)))
    | ((with_reducible apply J.draw (id := 19) [0, 0, 1, 7] (.q 0 (.q 1 (.x 2 (.x 3 .nil .none) .none))) (by kernel_rfl) ?_ (by kernel_rfl) ?_); (repeat (with_reducible first | exact PanicFree.body | exact PanicFree.np | exact PanicFree.lvS | apply PanicFree.then_ | apply PanicFree.blk)))
    | ((with_reducible apply J.pl2); exact rfl; (first | exact Gd.none | ((with_reducible apply Gd.on); exact rfl; exact rfl)); (first | exact pend_au | fail))
    | ((with_reducible apply J.pl2_off); exact rfl; ((with_reducible apply Gd.off); exact rfl; exact rfl; exact rfl); exact rfl; (first | exact pend_au | fail))
    | ((with_reducible apply J.pl2_off_none); exact rfl; ((with_reducible apply Gd.off); exact rfl; exact rfl; exact rfl); (first | exact pend_au | fail))
    | ((with_reducible first | apply J.psplit0 | apply J.psplit1 | apply J.psplit2); exact rfl; exact rfl; exact rfl)
    | (with_reducible exact J.pl_none)
    | ((with_reducible apply J.gsplit); exact rfl; exact rfl)
    | ((with_reducible first | apply J.cond | apply JC.cond); exact rfl)
    | (intro h; exfalso; (first | (simp at h; done) | omega))
    | (intro h; (try simp only [decide_eq_true_eq, decide_eq_false_iff_not, beq_iff_eq, beq_eq_false_iff_ne, Bool.not_eq_true', Bool.not_eq_false', bne_iff_ne, bne_eq_false_iff_eq, ne_eq, ge_iff_le, gt_iff_lt] at h))
    | (with_reducible apply J.gave')
    | ((with_reducible apply J.kept'); rotate_left; (first | exact outs_au | fail))
  rotate_left
  · first
      | ((with_reducible apply J.meet (1)); (case hs => ((try dsimp only); repeat (first | exact sub.nil _ | (refine sub.consE rfl ?_ ?_; (first | with_reducible rfl | (fail) | rfl))))); (case ho => ((try dsimp only); (first | exact outs_au | fail); done)); (case hp => exact .inr rfl))
      | ((with_reducible apply J.meet (0)); (case hs => ((try dsimp only); repeat (first | exact sub.nil _ | (refine sub.consE rfl ?_ ?_; (first | with_reducible rfl | (fail) | rfl))))); (case ho => ((try dsimp only); (first | exact outs_au | fail); done)); (case hp => exact .inl rfl))
  · first
      | ((with_reducible apply J.meet (1)); (case hs => ((try dsimp only); repeat (first | exact sub.nil _ | (refine sub.consE rfl ?_ ?_; (first | with_reducible rfl | (fail) | rfl))))); (case ho => ((try dsimp only); (first | exact outs_au | fail); done)); (case hp => exact .inr rfl))
      | ((with_reducible apply J.meet (0)); (case hs => ((try dsimp only); repeat (first | exact sub.nil _ | (refine sub.consE rfl ?_ ?_; (first | with_reducible rfl | (fail) | rfl))))); (case ho => ((try dsimp only); (first | exact outs_au | fail); done)); (case hp => exact .inl rfl))
  rename_i b10 b11
  obtain ⟨s0, e0, h0⟩ : ∃ s0 : SS, s0 = genS side tm ∧ SIn s0 ∧ SOk s0 ∧ (s0.side = 0 ∨ s0.side = 1) := ⟨genS side tm, rfl, gen_in _ _, gen_ok _ _, by rw [gen_side hsd0]; exact hsd0⟩
  obtain ⟨L0, hL0⟩ : ∃ L0 : List Lk, L0 = [] := ⟨_, rfl⟩
  have hl0 : LIn L0 := hL0 ▸ fun k hk => by cases hk
  refine J.nilRowC 58 3 (lcs []) rfl ?_
  apply J.reB (b := b10) (C' := s0.cells (.slice none L0.length 0))
  · (repeat (first | with_reducible exact Upd.here | with_reducible apply Upd.there))
  · rw [e0, hL0]; rfl
  apply J.reR (E := 58) (v := .slice none 0 0) (n := 0) (C := lcs []) (v' := .slice none L0.length 0) (n' := L0.length) (C' := lcs L0)
  · (repeat (first | with_reducible exact Upd.here | with_reducible apply Upd.there))
  · rw [hL0]; rfl
  · rw [hL0]; rfl
  · rw [hL0]
  apply J.reB (b := b11) (C' := s0.cells (.slice q8.1 L0.length q8.2))
  · (repeat (first | with_reducible exact Upd.here | with_reducible apply Upd.there))
  · rw [e0, hL0]
  apply J.reR (E := 99) (v := .slice q8.1 (List.length ([] : List Lk)) q8.2) (n := List.length ([] : List Lk)) (C := lcs []) (v' := .slice q8.1 L0.length q8.2) (n' := L0.length) (C' := lcs L0)
  · (repeat (first | with_reducible exact Upd.here | with_reducible apply Upd.there))
  · rw [hL0]
  · rw [hL0]
  · rw [hL0]
  apply J.loopI (σ := Nat × SS × List Lk × (Option Addr × Nat) × (Option Addr × Nat)) (I := fun x => x.1 ≤ T.length ∧ x.1 ≤ 40 ∧ (SIn x.2.1 ∧ SOk x.2.1 ∧ (x.2.1.side = 0 ∨ x.2.1.side = 1)) ∧ LIn x.2.2.1 ∧ x.2.2.1.length ≤ x.1) (L := fun x => [(2, .slice ao T.length cap), (3, .slice ag ng cg), (10, .pointer (some ⟨b10, 0, none⟩)), (11, .pointer (some ⟨b11, 0, none⟩)), (12, .int .i64 (x.1 : Int))]) (HH := fun x => [row (.slice x.2.2.2.1.1 x.2.2.1.length x.2.2.2.1.2) 58 3 x.2.2.1.length (lcs x.2.2.1), blk b10 (SS.cells x.2.1 (.slice x.2.2.2.1.1 x.2.2.1.length x.2.2.2.1.2)) 34, row (.slice x.2.2.2.2.1 x.2.2.1.length x.2.2.2.2.2) 99 3 x.2.2.1.length (lcs x.2.2.1), blk b11 (SS.cells x.2.1 (.slice x.2.2.2.2.1 x.2.2.1.length x.2.2.2.2.2)) 39]) (m := fun x => T.length - x.1) (s0 := (0, s0, L0, (none, 0), q8))
  · ((try dsimp only); (exact ⟨Nat.zero_le _, Nat.zero_le _, h0, hl0, by rw [hL0]; exact Nat.zero_le _⟩))
  · ((try dsimp only); repeat (first | exact sub.nil _ | (refine sub.consE rfl ?_ ?_; (first | with_reducible rfl | (fail) | rfl))))
  · ((try dsimp only); (first | exact outs_au | fail))
  rintro ⟨i, s, L, qs, qx⟩ ⟨hi, hi4, ⟨hn, hs, hsd⟩, hl, hL⟩
  try dsimp only at *
  obtain ⟨t, het⟩ : ∃ t, T.getD i tx0 = t := ⟨_, rfl⟩
  have hit : TX t := het ▸ hT.get i
  have hmL : L.length ≤ maxLen := by unfold maxLen; omega
  have hbL : L.length * 40 ≤ 140737488355328 := by omega
  have hmL1 : L.length + 1 ≤ maxLen := by unfold maxLen; omega
  have hbL1 : (L.length + 1) * 40 ≤ 140737488355328 := by omega
  repeat' first
    | ((with_reducible apply J.cutS (id := 11) (α := SS × (Option Addr × Nat)) (p := fun x => SIn x.1 ∧ SOk x.1 ∧ (x.1.side = 0 ∨ x.1.side = 1)) (L := fun x => [(2, .slice ao T.length cap), (3, .slice ag ng cg), (10, .pointer (some ⟨b10, 0, none⟩)), (11, .pointer (some ⟨b11, 0, none⟩)), (12, .int .i64 (i : Int))]) (HH := fun x => [row (.slice x.2.1 L.length x.2.2) 58 3 L.length (lcs L), blk b10 (SS.cells x.1 (.slice x.2.1 L.length x.2.2)) 34, row (.slice qx.1 L.length qx.2) 99 3 L.length (lcs L), blk b11 (SS.cells x.1 (.slice qx.1 L.length qx.2)) 39])); rotate_left; rintro ⟨s2, qs2⟩ ⟨hn2, hs2, hsd2⟩; (change SIn s2 at hn2); (change SOk s2 at hs2); (change s2.side = 0 ∨ s2.side = 1 at hsd2); obtain ⟨ap, hap⟩ : (∃ ap, apF s2 L t = ap) := ⟨_, rfl⟩; obtain ⟨k1, _, k3, k4⟩ := ap_keeps hap hs2 hit.i; have hmA : ap.L.length ≤ maxLen := (by unfold maxLen; omega); have hbA : ap.L.length * 40 ≤ 140737488355328 := (by omega); obtain ⟨k5, k6, _⟩ := ap_in hap hn2 hs2 hl hit.i; have k7 : ap.s.side = 0 ∨ ap.s.side = 1 := by rw [ap_side hap]; exact hsd2; (try dsimp only))
    | (refine J.qv ?_; (with_reducible apply exq); focus (first
      | ((with_reducible apply Qv.indexSrcs (ao := ao) (k := i)); exact rfl; exact rfl; (focus omega); (focus omega); exact hao (by omega))
      | ((with_reducible apply Qv.indexSrcs (ao := ag) (k := i)); exact rfl; exact rfl; (focus omega); (focus omega); exact hag (by omega))
      | ((with_reducible apply Qv.rem); exact rfl; exact rfl; decide; exact gp_eq (G i))
      | ((with_reducible apply Qv.rem); exact rfl; exact rfl; decide; exact rfl)
      | ((with_reducible apply Qv.add); exact rfl; exact rfl; exact wr64 (by have h8 := gp_t (G i); omega) (by have h8 := gp_t (G i); omega) (show (G i).tmod 50 + 50 = _ from rfl))
      | ((with_reducible apply Qv.add); exact rfl; exact rfl; exact wr64 (by have h8 := gp_b (G i); have h7 := hs.t0; have h6 := hs.t1; omega) (by have h8 := gp_b (G i); have h7 := hs.t0; have h6 := hs.t1; omega) (show s.time + gpF (G i) = _ from rfl))
      | ((with_reducible apply Qv.add); exact rfl; exact rfl; exact wr64 (by omega) (by omega) rfl)))
    | (refine J.qr ?_; (with_reducible apply exq); focus (first
      | ((with_reducible apply Qr.rdN (C := txc T) (j := i * 25) (cs := t.cells)); exact rfl; exact RH.old hr; exact het ▸ txc_at (by omega); exact tx_len _)
      | ((with_reducible apply Qr.rd1 (C := tab (fun j => .int .i64 (G j)) ng) (j := i * 1)); exact rfl; exact RH.old hrg; exact tab_at (Nat.mul_one i) (by omega))
      | ((with_reducible apply Qr.ldTime); exact rfl; (focus ((repeat (first | with_reducible exact In.here | with_reducible apply In.there)); done)))
      | ((with_reducible apply Qr.loadFull); exact rfl; (focus ((repeat (first | with_reducible exact In.here | with_reducible apply In.there)); done)); (with_reducible first | exact SS.len _ _ | exact tx_len _))))
    | (refine J.qo ?_; refine ⟨?_, ?_⟩; focus (first
      | ((with_reducible apply Qr.rdN (C := txc T) (j := i * 25) (cs := t.cells)); exact rfl; exact RH.old hr; exact het ▸ txc_at (by omega); exact tx_len _)
      | ((with_reducible apply Qr.rd1 (C := tab (fun j => .int .i64 (G j)) ng) (j := i * 1)); exact rfl; exact RH.old hrg; exact tab_at (Nat.mul_one i) (by omega))
      | ((with_reducible apply Qr.ldTime); exact rfl; (focus ((repeat (first | with_reducible exact In.here | with_reducible apply In.there)); done)))
      | ((with_reducible apply Qr.loadFull); exact rfl; (focus ((repeat (first | with_reducible exact In.here | with_reducible apply In.there)); done)); (with_reducible first | exact SS.len _ _ | exact tx_len _))))
    | ((with_reducible apply J.stTime); exact rfl; exact rfl; (repeat (first | with_reducible exact Upd.here | with_reducible apply Upd.there)))
    | ((with_reducible apply J.storeFull); exact rfl; exact rfl; (repeat (first | with_reducible exact Upd.here | with_reducible apply Upd.there)); (with_reducible exact SS.len _ _); (focus (first | (with_reducible exact SS.len _ _) | kernel_rfl)); with_reducible exact SS.ones _ _ _ _)
    | ((with_reducible apply J.stV (rise_ s (gpF (G i)) _ _ L)); exact rfl; exact rfl; (exact RH.and (RH.row (by (repeat (first | with_reducible exact In.here | with_reducible apply In.there)))) (RH.of ⟨hs, hmL, hbL⟩)); intro q9 hq9)
    | ((with_reducible apply J.apE (apply_c s2 _ _ L t ap hap)); exact rfl; exact rfl; (exact RH.and (RH.row (by (repeat (first | with_reducible exact In.here | with_reducible apply In.there)))) (RH.of ⟨hs2, hit.i, hmL1, hbL1⟩)); intro q7 hq7)
    | ((with_reducible apply J.rapE (rap_c s2 _ _ L t ap hap)); exact rfl; exact rfl; (exact RH.and (RH.row (by (repeat (first | with_reducible exact In.here | with_reducible apply In.there)))) (RH.of ⟨hs2, hit.i, hsd2, hmL1, hbL1⟩)); intro q6 hq6; rotate_left; intro hLL; subst hLL)
    | ((with_reducible apply J.stV (plain_ ap.s _ _ ap.L)); exact rfl; exact rfl; (exact RH.and (RH.row (by (repeat (first | with_reducible exact In.here | with_reducible apply In.there)))) (RH.of ⟨hmA, hbA⟩)); intro q5 hq5)
    | ((with_reducible apply J.givesR (same_ ap.s _ _ _ _ ap.L)); exact rfl; exact rfl; (focus (exact RH.and (RH.and (RH.row (by (repeat (first | with_reducible exact In.here | with_reducible apply In.there)))) (RH.row (by (repeat (first | with_reducible exact In.here | with_reducible apply In.there))))) (RH.of ⟨k5, k6, hmA⟩))))
    | ((with_reducible apply J.givesR (num_ ap.e)); exact rfl; exact rfl; focus (exact RH.of trivial))
    | refine J.one ?_
    | refine J.loudS ?_
    | (refine J.loudQ ?_; intro _ _)
    | (refine J.loudB ?_; intro _)
    | (with_reducible apply J.list)
    | ((with_reducible apply J.draw (id := 15) [0, 0, 0, 6, 14, 31, 63, 127, 127, 127, 0, 1279, 3583, 8191] (.q 0 (.p 1 (.p 2 (.p 3 (.q 4 (.x 5 (.p 6 (.p 7 (.p 8 (.p 9 (.x 10 (.x 11 (.p 12 (.p 13 .nil)) .none) .none))))) (.x 10 (.x 5 (.p 6 (.p 7 (.p 8 (.p 9 (.x 11 (.p 12 (.p 13 .nil)) .none))))) .none) .none))))))) (by kernel_rfl) ?_ (by kernel_rfl) ?_); (repeat (with_reducible first | exact PanicFree.body | exact PanicFree.np | exact PanicFree.lvS | apply PanicFree.then_ | apply PanicFree.blk)))
    | ((with_reducible apply J.draw (id := 16) [0, 0, 0, 6, 14, 31, 63, 127, 127, 127, 0, 1279, 3583, 8191] (.q 0 (.p 1 (.p 2 (.p 3 (.q 4 (.x 5 (.p 6 (.p 7 (.p 8 (.p 9 (.x 10 (.x 11 (.p 12 (.p 13 .nil)) .none) .none))))) (.x 10 (.x 5 (.p 6 (.p 7 (.p 8 (.p 9 (.x 11 (.p 12 (.p 13 .nil)) .none))))) .none) .none))))))) (by kernel_rfl) ?_ (by kernel_rfl) ?_); (repeat (with_reducible first | exact PanicFree.body | exact PanicFree.np | exact PanicFree.lvS | apply PanicFree.then_ | apply PanicFree.blk)))
    | ((with_reducible apply J.draw (id := 17) [0, 1, 0, 7, 15, 31, 63, 127, 63, 511, 1023, 2047, 4095, 4095, 16383, 32767] (.q 0 (.q 2 (.x 1 (.x 3 (.p 4 (.p 5 (.p 6 (.p 8 (.x 7 (.p 9 (.p 10 (.p 11 (.p 12 (.p 13 (.p 14 (.p 15 .nil))))))) .none))))) .none) .none))) (by kernel_rfl) ?_ (by kernel_rfl) ?_); (repeat (with_reducible first | exact PanicFree.body | exact PanicFree.np | exact PanicFree.lvS | apply PanicFree.then_ | apply PanicFree.blk)))
    | ((with_reducible apply J.draw (id := 19) [0, 0, 1, 7] (.q 0 (.q 1 (.x 2 (.x 3 .nil .none) .none))) (by kernel_rfl) ?_ (by kernel_rfl) ?_); (repeat (with_reducible first | exact PanicFree.body | exact PanicFree.np | exact PanicFree.lvS | apply PanicFree.then_ | apply PanicFree.blk)))
    | ((with_reducible apply J.pl2); exact rfl; (first | exact Gd.none | ((with_reducible apply Gd.on); exact rfl; exact rfl)); (first | exact pend_au | fail))
    | ((with_reducible apply J.pl2_off); exact rfl; ((with_reducible apply Gd.off); exact rfl; exact rfl; exact rfl); exact rfl; (first | exact pend_au | fail))
    | ((with_reducible apply J.pl2_off_none); exact rfl; ((with_reducible apply Gd.off); exact rfl; exact rfl; exact rfl); (first | exact pend_au | fail))
    | ((with_reducible first | apply J.psplit0 | apply J.psplit1 | apply J.psplit2); exact rfl; exact rfl; exact rfl)
    | (with_reducible exact J.pl_none)
    | ((with_reducible apply J.gsplit); exact rfl; exact rfl)
    | ((with_reducible first | apply J.cond | apply JC.cond); exact rfl)
    | (intro h; exfalso; (first | (simp at h; done) | omega))
    | (intro h; (try simp only [decide_eq_true_eq, decide_eq_false_iff_not, beq_iff_eq, beq_eq_false_iff_ne, Bool.not_eq_true', Bool.not_eq_false', bne_iff_ne, bne_eq_false_iff_eq, ne_eq, ge_iff_le, gt_iff_lt] at h))
    | (with_reducible apply J.gave')
    | ((with_reducible apply J.kept'); rotate_left; (first | exact outs_au | fail))
  all_goals first
    | rfl
    | ((with_reducible apply J.meet ((s, qs))); (case hs => ((try dsimp only); repeat (first | exact sub.nil _ | (refine sub.consE rfl ?_ ?_; (first | with_reducible rfl | (fail) | rfl))))); (case ho => ((try dsimp only); (first | exact outs_au | fail); done)); (case hp => exact ⟨hn, hs, hsd⟩))
    | (apply J.reB (b := b11) (C' := (riseS s (gpF (G i))).cells (.slice qx.1 L.length qx.2))
       · (repeat (first | with_reducible exact Upd.here | with_reducible apply Upd.there))
       · exact rise_t hs (gp_b _) _
       · ((with_reducible apply J.meet ((riseS s (gpF (G i)), q9))); (case hs => ((try dsimp only); repeat (first | exact sub.nil _ | (refine sub.consE rfl ?_ ?_; (first | with_reducible rfl | (fail) | rfl))))); (case ho => ((try dsimp only); (first | exact outs_au | fail); done)); (case hp => exact ⟨ris_in hn hs _, riseS_ok hs, hsd⟩)))
    | (apply J.againI (s := (i, s, L, qs, qx)) (s' := (i + 1, ap.s, ap.L, q7, q6)); (focus (((try dsimp only) <;> omega))); (focus ((try dsimp only); (exact ⟨by omega, by omega, ⟨k5, k1, k7⟩, k6, by omega⟩))); (focus (((try dsimp only); repeat (first | exact sub.nil _ | (refine sub.consE rfl ?_ ?_; (first | with_reducible rfl | ((focus (congr 1; omega))) | rfl)))))); ((try dsimp only); (first | exact outs_au | fail)))
    | (apply J.againI (s := (i, s, ap.L, qs, qx)) (s' := (i + 1, ap.s, ap.L, q7, qx)); (focus (((try dsimp only) <;> omega))); (focus ((try dsimp only); (exact ⟨by omega, by omega, ⟨k5, k1, k7⟩, k6, by omega⟩))); (focus (((try dsimp only); repeat (first | exact sub.nil _ | (refine sub.consE rfl ?_ ?_; (first | with_reducible rfl | ((focus (congr 1; omega))) | rfl)))))); ((try dsimp only); (first | exact outs_au | fail)))
    | (trace_state; fail)
theorem EscrowRuns {r : Reach} {b0 : Nat} {H : Type} {enc : TypeId × Value → H} {spare : Nat → Bool} {held : Bool} {d d2 : DataW H} {p p2 : List MemPlace} (wh : Bool) (tm : Int) (v v2 : Value) (W : World) (g2 : (Lit.int .i64 tm).wf = true) (o : Value.okWide Tryz.prog W r b0 22 v) (t : DataW.Trod enc Tryz.prog W 0 spare held 22 v d p) (o2 : Value.okWide Tryz.prog W r b0 23 v2) (t2 : DataW.Trod enc Tryz.prog W 0 spare held 23 v2 d2 p2) :
    Calls Tryz.prog 3 #[.bool wh, .int .i64 tm, v, v2] W fun e w' => e = .returned (.bool true) ∧ Below W.heap.size W w' := by
  obtain ⟨ao, T, cap, rfl, h1, h2, h3, h4⟩ := reads_txs (in_slice (L := txsh) (k := 6) (e := 50) rfl o t (by kernel_rfl))
  obtain ⟨ag, ng, cg, G, rfl, h5, h6, h7⟩ := reads_ints (in_slice (L := [.int .i64]) (k := 6) (e := 3) rfl o2 t2 (by kernel_rfl))
  exact (runs wh tm ao ag cap ng cg T G W ⟨h4, h3, by omega, h5, h6, h7⟩).below
end Go.Proofs.YtljbedladifgmaaGreat.Erun
