/-
  The law EscrowLocks. No conditions.
-/
import Derived.Test.YtljbedladifgmaaGreatQLks
namespace Go.Proofs.YtljbedladifgmaaGreat.Elk
open Go Go.RowKit Eng
set_option linter.unusedVariables false
set_option maxRecDepth 100000
set_option linter.unusedSimpArgs false
open Wide Purse Tx Sha Ss Esc Vau Lck Do Prep Ful Doo Tri App Inn Low Gene Pln Plx Sam Alv Deal Mss Ots Hash Bytes R6 R6b Lks
set_option maxHeartbeats 1000000
theorem J.someR {c : Cx} {l : TL} {H : List Asrt} {G : Act → World → Prop} {ao : Option Addr} {n cap E sz : Nat} {C : List Value} (hm : In (row (.slice ao n cap) E sz n C) H) (hz : sz ≠ 0) (K : (0 < n → ao.isSome = true) → J c l H G) : J c l H G := J.mk fun a w s => by
  have h := s.2.2.rd_row hm
  refine (K fun hn => h.1.isSome fun e => ?_).out a w s
  have h2 := h.2.2.2.1
  rw [e] at h2
  have h3 : 0 = n * sz := h2
  rcases Nat.mul_eq_zero.1 h3.symm with h4 | h4 <;> omega
theorem side_c (s0 s : SS) (h : sideS s0 = s) (ao : Option Addr) (n cap : Nat) (w : World) : CSpec Tryz.prog 19 [.agg (s0.cells (.slice ao n cap)).toArray] [] w (Gives (.agg (s.cells (.slice ao n cap)).toArray)) := h ▸ side_ s0 _ ⟨ao, n, cap, rfl⟩ w
theorem sideS_ok {s : SS} (h : SIn s) : SOk (sideS s) := ⟨h.pu, h.va, h.he, h.bu, by
  show 0 ≤ (if s.time < 0 ∨ 1099511627776 < s.time then 0 else s.time)
  split <;> omega, by
  show (if s.time < 0 ∨ 1099511627776 < s.time then 0 else s.time) ≤ _
  split <;> omega⟩
theorem lk_len (k : Lk) : k.cells.length = 3 := rfl
theorem lk_ones (k : Lk) : k.cells.all (·.oneCell') = true := rfl
theorem lk_g0 (k : Lk) : k.cells[0]? = some (str k.key) := rfl
theorem lk_g1 (k : Lk) : k.cells[1]? = some (str k.dig) := rfl
theorem lk_g2 (k : Lk) : k.cells[2]? = some (.int .i64 k.st) := rfl
theorem inv_at (t : Tx) : (t.cells.drop 8).take 7 = invc t.us t.rt t.ro t.se t.re t.to t.id := rfl
theorem inv_len (us : Int) (rt : List UInt8) (ro se re to : Int) (id : List UInt8) : (invc us rt ro se re to id).length = 7 := rfl
theorem tx_len (t : Tx) : t.cells.length = 25 := rfl
theorem locks (s0 s : SS) (ao : Option Addr) (cap : Nat) (L : List Lk) (t : Tx) (n : SS) (L' : List Lk) (e : Int) (ok : Bool) (hap : apF s L t = ⟨n, L', e, ok⟩) (hk : KL L L') (w : World) (hw : Rd w ao (lcs L) ∧ SOk s ∧ TIn t ∧ sideS s0 = s ∧ L.length + 1 ≤ maxLen ∧ (L.length + 2) * 40 ≤ 140737488355328) : CSpec Tryz.prog 4 [.agg (s0.cells (.slice ao L.length cap)).toArray, .agg t.cells.toArray] [] w (Gives (.bool true)) := by
  obtain ⟨hr, hs, ht, hsd, hm1, hb⟩ := hw
  have hm : L.length ≤ maxLen := by omega
  have hm9 : L.length ≤ 9223372036854775806 := by unfold maxLen at hm1; omega
  have hb1 : (L.length + 1) * 40 ≤ 140737488355328 := by omega
  have hk1 := hk.lo
  have hk2 := hk.hi
  have hm2 : L'.length ≤ maxLen := by omega
  have hb2 : L'.length * 40 ≤ 140737488355328 := by omega
  have hao : 0 < L.length → ao.isSome = true := fun h => hr.isSome (by
    intro e
    have h8 := lcs_length L
    rw [e] at h8
    simp at h8
    omega)
  refine spec_own0 Tryz.func4 rfl Tryz.ntmps4 rfl (l0 := [(0, .agg (s0.cells (.slice ao L.length cap)).toArray), (1, .agg t.cells.toArray)]) rfl ?_
  repeat' first
    | (refine J.qr ?_; (with_reducible apply exq); focus (first
      | ((with_reducible apply Qr.ldLv); exact rfl; (focus ((repeat (first | with_reducible exact In.here | with_reducible apply In.there)); done)))
      | ((with_reducible apply Qr.loadFull); exact rfl; (focus ((repeat (first | with_reducible exact In.here | with_reducible apply In.there)); done)); (with_reducible first | exact SS.len _ _ | exact tx_len _))))
    | (refine J.qo ?_; refine ⟨?_, ?_⟩; focus (first
      | ((with_reducible apply Qr.ldLv); exact rfl; (focus ((repeat (first | with_reducible exact In.here | with_reducible apply In.there)); done)))
      | ((with_reducible apply Qr.loadFull); exact rfl; (focus ((repeat (first | with_reducible exact In.here | with_reducible apply In.there)); done)); (with_reducible first | exact SS.len _ _ | exact tx_len _))))
    | ((with_reducible apply J.storeFull); exact rfl; exact rfl; (repeat (first | with_reducible exact Upd.here | with_reducible apply Upd.there)); (with_reducible exact SS.len _ _); (focus (first | (with_reducible exact SS.len _ _) | kernel_rfl)); with_reducible exact SS.ones _ _ _ _)
    | ((with_reducible apply J.givesW (alive12)); exact rfl; exact rfl)
    | ((with_reducible apply J.givesW (side_c s0 s hsd _ _ _)); exact rfl; exact rfl)
    | ((with_reducible apply J.apE (apply_c s _ _ L t _ hap)); exact rfl; exact rfl; (exact RH.and (RH.old hr) (RH.of ⟨hs, ht, hm1, hb1⟩)); intro q9 hq9; (try dsimp only))
    | refine J.one ?_
    | refine J.loudS ?_
    | (refine J.loudQ ?_; intro _ _)
    | (refine J.loudB ?_; intro _)
    | (with_reducible apply J.list)
    | ((with_reducible apply J.draw (id := 10) [0, 1, 0, 7, 15, 0, 32, 0, 224, 480, 0, 0, 3103, 8191] (.p 0 (.q 1 (.p 2 (.p 3 (.q 4 (.p 5 (.q 6 (.p 7 (.p 8 (.q 9 (.x 10 (.x 11 (.x 12 (.x 13 .nil .none) .none) .none) (.x 11 (.x 10 (.x 12 (.x 13 .nil .none) .none) .none) .none)))))))))))) (by kernel_rfl) ?_ (by kernel_rfl) ?_); (repeat (with_reducible first | exact PanicFree.body | exact PanicFree.np | exact PanicFree.lvS | apply PanicFree.then_ | apply PanicFree.blk)))
    | ((with_reducible apply J.draw (id := 13) [0, 0, 2, 6, 15, 0, 63, 0, 128, 511, 1023, 2047, 4095] (.q 0 (.p 1 (.q 2 (.q 5 (.p 7 (.q 8 (.x 3 (.x 4 (.x 6 (.x 9 (.x 10 (.p 11 (.p 12 .nil)) .none) .none) .none) .none) .none))))))) (by kernel_rfl) ?_ (by kernel_rfl) ?_); (repeat (with_reducible first | exact PanicFree.body | exact PanicFree.np | exact PanicFree.lvS | apply PanicFree.then_ | apply PanicFree.blk)))
    | ((with_reducible apply J.pl2); exact rfl; (first | exact Gd.none | ((with_reducible apply Gd.on); exact rfl; exact rfl)); (repeat (first | (with_reducible exact PendF.nil) | ((with_reducible apply PendF.keep); exact rfl) | ((with_reducible apply PendF.gone); exact rfl))))
    | ((with_reducible apply J.pl2_off); exact rfl; ((with_reducible apply Gd.off); exact rfl; exact rfl; exact rfl); exact rfl; (repeat (first | (with_reducible exact PendF.nil) | ((with_reducible apply PendF.keep); exact rfl) | ((with_reducible apply PendF.gone); exact rfl))))
    | ((with_reducible apply J.pl2_off_none); exact rfl; ((with_reducible apply Gd.off); exact rfl; exact rfl; exact rfl); (repeat (first | (with_reducible exact PendF.nil) | ((with_reducible apply PendF.keep); exact rfl) | ((with_reducible apply PendF.gone); exact rfl))))
    | ((with_reducible first | apply J.psplit0 | apply J.psplit1 | apply J.psplit2); exact rfl; exact rfl; exact rfl)
    | (with_reducible exact J.pl_none)
    | ((with_reducible apply J.gsplit); exact rfl; exact rfl)
    | ((with_reducible first | apply J.cond | apply JC.cond); exact rfl)
    | (intro h; exfalso; (first | (simp at h; done) | (simp at h; omega) | omega))
    | (intro h; (try simp only [decide_eq_true_eq, decide_eq_false_iff_not, beq_iff_eq, beq_eq_false_iff_ne, Bool.not_eq_true', Bool.not_eq_false', bne_iff_ne, bne_eq_false_iff_eq, ne_eq, ge_iff_le, gt_iff_lt] at h))
    | (with_reducible apply J.gave')
    | ((with_reducible apply J.kept'); rotate_left; (repeat (first | (with_reducible exact Outs.nil) | ((with_reducible apply Outs.cons); (repeat (first | with_reducible exact Out.here | with_reducible apply Out.there))))))
  rename_i b2 b3 _ b5 _
  (with_reducible apply J.someR (ao := q9.1) (n := L'.length) (E := 58) (C := lcs L') (sz := 3) (by (repeat (first | with_reducible exact In.here | with_reducible apply In.there))) (by decide); intro s9)
  apply J.loopI (σ := Nat) (I := fun q => q ≤ L.length) (L := fun q => [(2, .pointer (some ⟨b2, 0, none⟩)), (3, .pointer (some ⟨b3, 0, none⟩)), (5, .pointer (some ⟨b5, 0, none⟩)), (8, .int .i64 (q : Int))]) (HH := fun q => [blk b2 (s.cells (.slice ao L.length cap)) 34, blk b3 t.cells 50, blk b5 (n.cells (.slice q9.1 L'.length q9.2)) 34, row (.slice q9.1 L'.length q9.2) 58 3 L'.length (lcs L')]) (m := fun q => L.length - q) (s0 := 0)
  · ((try dsimp only); (exact Nat.zero_le _))
  · ((try dsimp only); repeat (first | exact sub.nil _ | (refine sub.consE rfl ?_ ?_; (first | with_reducible rfl | (fail) | rfl))))
  · ((try dsimp only); (repeat (first | (with_reducible exact Outs.nil) | ((with_reducible apply Outs.cons); (repeat (first | with_reducible exact Out.here | with_reducible apply Out.there))))))
  rintro i hi
  try dsimp only at hi ⊢
  obtain ⟨x, hx⟩ : ∃ x, L.getD i lk0 = x := ⟨_, rfl⟩
  obtain ⟨y, hy⟩ : ∃ y, L'.getD i lk0 = y := ⟨_, rfl⟩
  have hxy : i < L.length → kept1 x y := fun h => hx ▸ hy ▸ hk.at_ i h
  repeat' first
    | (refine J.qv ?_; (with_reducible apply exq); focus (first
      | ((with_reducible apply Qv.indexSrcs (ao := ao) (k := i)); exact rfl; exact rfl; (focus omega); (focus omega); exact hao (by omega))
      | ((with_reducible apply Qv.indexSrcs (ao := q9.1) (k := i)); exact rfl; exact rfl; (focus omega); (focus omega); exact s9 (by omega))
      | ((with_reducible apply Qv.add); exact rfl; exact rfl; exact wr64 (by omega) (by omega) rfl)))
    | (refine J.qr ?_; (with_reducible apply exq); focus (first
      | ((with_reducible apply Qr.ldLv); exact rfl; (focus ((repeat (first | with_reducible exact In.here | with_reducible apply In.there)); done)))
      | ((with_reducible apply Qr.loadFull); exact rfl; (focus ((repeat (first | with_reducible exact In.here | with_reducible apply In.there)); done)); (with_reducible first | exact SS.len _ _ | exact tx_len _))
      | ((with_reducible apply Qr.loadN); exact rfl; (focus ((repeat (first | with_reducible exact In.here | with_reducible apply In.there)); done)); exact inv_at t; exact inv_len _ _ _ _ _ _ _)
      | ((with_reducible apply Qr.rdN (C := lcs L) (j := i * 3) (cs := (x).cells)); exact rfl; exact RH.old hr; (rw [← hx]; exact lcs_at (by omega)); exact lk_len _)
      | ((with_reducible apply Qr.rdN (C := lcs L') (j := i * 3) (cs := (y).cells)); exact rfl; exact RH.row (by (repeat (first | with_reducible exact In.here | with_reducible apply In.there))); (rw [← hy]; exact lcs_at (by omega)); exact lk_len _)
      | ((with_reducible apply Qr.load1); exact rfl; (focus ((repeat (first | with_reducible exact In.here | with_reducible apply In.there)); done)); (with_reducible first | exact lk_g0 _ | exact lk_g1 _ | exact lk_g2 _))))
    | (refine J.qo ?_; refine ⟨?_, ?_⟩; focus (first
      | ((with_reducible apply Qr.ldLv); exact rfl; (focus ((repeat (first | with_reducible exact In.here | with_reducible apply In.there)); done)))
      | ((with_reducible apply Qr.loadFull); exact rfl; (focus ((repeat (first | with_reducible exact In.here | with_reducible apply In.there)); done)); (with_reducible first | exact SS.len _ _ | exact tx_len _))
      | ((with_reducible apply Qr.loadN); exact rfl; (focus ((repeat (first | with_reducible exact In.here | with_reducible apply In.there)); done)); exact inv_at t; exact inv_len _ _ _ _ _ _ _)
      | ((with_reducible apply Qr.rdN (C := lcs L) (j := i * 3) (cs := (x).cells)); exact rfl; exact RH.old hr; (rw [← hx]; exact lcs_at (by omega)); exact lk_len _)
      | ((with_reducible apply Qr.rdN (C := lcs L') (j := i * 3) (cs := (y).cells)); exact rfl; exact RH.row (by (repeat (first | with_reducible exact In.here | with_reducible apply In.there))); (rw [← hy]; exact lcs_at (by omega)); exact lk_len _)
      | ((with_reducible apply Qr.load1); exact rfl; (focus ((repeat (first | with_reducible exact In.here | with_reducible apply In.there)); done)); (with_reducible first | exact lk_g0 _ | exact lk_g1 _ | exact lk_g2 _))))
    | ((with_reducible apply J.storeFull); exact rfl; exact rfl; (repeat (first | with_reducible exact Upd.here | with_reducible apply Upd.there)); (with_reducible exact lk_len _); (focus kernel_rfl); with_reducible exact lk_ones _)
    | ((with_reducible apply J.givesR (key_ t.us t.rt t.ro t.se t.re t.to t.id)); exact rfl; exact rfl; focus (exact RH.true_))
    | ((with_reducible apply J.givesR (rkey t.us t.rt t.ro t.se t.re t.to t.id)); exact rfl; exact rfl; focus (exact RH.true_))
    | ((with_reducible apply J.givesR (status_ n _ _ _ L' (keyT t))); exact rfl; exact rfl; focus (exact RH.and (RH.row (by (repeat (first | with_reducible exact In.here | with_reducible apply In.there)))) (RH.of ⟨rfl, hm2⟩)))
    | ((with_reducible apply J.givesR (rstatus n _ _ _ L' (keyT t))); exact rfl; exact rfl; focus (exact RH.and (RH.row (by (repeat (first | with_reducible exact In.here | with_reducible apply In.there)))) (RH.of ⟨rfl, hm2⟩)))
    | ((with_reducible apply J.stV (plain_ n _ _ L')); exact rfl; exact rfl; (exact RH.and (RH.row (by (repeat (first | with_reducible exact In.here | with_reducible apply In.there)))) (RH.of ⟨hm2, hb2⟩)); intro _ _)
    | refine J.one ?_
    | refine J.loudS ?_
    | (refine J.loudQ ?_; intro _ _)
    | (refine J.loudB ?_; intro _)
    | (with_reducible apply J.list)
    | ((with_reducible apply J.draw (id := 10) [0, 1, 0, 7, 15, 0, 32, 0, 224, 480, 0, 0, 3103, 8191] (.p 0 (.q 1 (.p 2 (.p 3 (.q 4 (.p 5 (.q 6 (.p 7 (.p 8 (.q 9 (.x 10 (.x 11 (.x 12 (.x 13 .nil .none) .none) .none) (.x 11 (.x 10 (.x 12 (.x 13 .nil .none) .none) .none) .none)))))))))))) (by kernel_rfl) ?_ (by kernel_rfl) ?_); (repeat (with_reducible first | exact PanicFree.body | exact PanicFree.np | exact PanicFree.lvS | apply PanicFree.then_ | apply PanicFree.blk)))
    | ((with_reducible apply J.draw (id := 13) [0, 0, 2, 6, 15, 0, 63, 0, 128, 511, 1023, 2047, 4095] (.q 0 (.p 1 (.q 2 (.q 5 (.p 7 (.q 8 (.x 3 (.x 4 (.x 6 (.x 9 (.x 10 (.p 11 (.p 12 .nil)) .none) .none) .none) .none) .none))))))) (by kernel_rfl) ?_ (by kernel_rfl) ?_); (repeat (with_reducible first | exact PanicFree.body | exact PanicFree.np | exact PanicFree.lvS | apply PanicFree.then_ | apply PanicFree.blk)))
    | ((with_reducible apply J.pl2); exact rfl; (first | exact Gd.none | ((with_reducible apply Gd.on); exact rfl; exact rfl)); (repeat (first | (with_reducible exact PendF.nil) | ((with_reducible apply PendF.keep); exact rfl) | ((with_reducible apply PendF.gone); exact rfl))))
    | ((with_reducible apply J.pl2_off); exact rfl; ((with_reducible apply Gd.off); exact rfl; exact rfl; exact rfl); exact rfl; (repeat (first | (with_reducible exact PendF.nil) | ((with_reducible apply PendF.keep); exact rfl) | ((with_reducible apply PendF.gone); exact rfl))))
    | ((with_reducible apply J.pl2_off_none); exact rfl; ((with_reducible apply Gd.off); exact rfl; exact rfl; exact rfl); (repeat (first | (with_reducible exact PendF.nil) | ((with_reducible apply PendF.keep); exact rfl) | ((with_reducible apply PendF.gone); exact rfl))))
    | ((with_reducible first | apply J.psplit0 | apply J.psplit1 | apply J.psplit2); exact rfl; exact rfl; exact rfl)
    | (with_reducible exact J.pl_none)
    | ((with_reducible apply J.gsplit); exact rfl; exact rfl)
    | ((with_reducible first | apply J.cond | apply JC.cond); exact rfl)
    | (intro h; exfalso; (first | (simp at h; done) | (rw [(hxy (by omega)).1] at h; simp at h; done) | (rw [(hxy (by omega)).2.1] at h; simp at h; done) | (rcases (hxy (by omega)).2.2 with h8 | h8 <;> simp_all; done) | (simp at h; omega) | omega))
    | (intro h; (try simp only [decide_eq_true_eq, decide_eq_false_iff_not, beq_iff_eq, beq_eq_false_iff_ne, Bool.not_eq_true', Bool.not_eq_false', bne_iff_ne, bne_eq_false_iff_eq, ne_eq, ge_iff_le, gt_iff_lt] at h))
    | (with_reducible apply J.gave')
    | ((with_reducible apply J.kept'); rotate_left; (repeat (first | (with_reducible exact Outs.nil) | ((with_reducible apply Outs.cons); (repeat (first | with_reducible exact Out.here | with_reducible apply Out.there))))))
  all_goals first
    | (apply J.againI (s := i) (s' := (i + 1)); (focus (omega)); (focus ((try dsimp only); omega)); (focus (((try dsimp only); repeat (first | exact sub.nil _ | (refine sub.consE rfl ?_ ?_; (first | with_reducible rfl | ((focus (congr 1; omega))) | rfl)))))); ((try dsimp only); (repeat (first | (with_reducible exact Outs.nil) | ((with_reducible apply Outs.cons); (repeat (first | with_reducible exact Out.here | with_reducible apply Out.there)))))))
    | (simp only [retv, beq_self_eq_true]; done)
    | (trace_state; fail)
theorem EscrowLocks {r : Reach} {b0 : Nat} {H : Type} {enc : TypeId × Value → H} {spare : Nat → Bool} {held : Bool} {d d' : DataW H} {p p' : List MemPlace} (v v2 : Value) (W : World) (o : Value.okWide Tryz.prog W r b0 34 v) (t : DataW.Trod enc Tryz.prog W 0 spare held 34 v d p) (sz : ∀ (cs : List Value) a len cap, v = .agg cs.toArray → cs[150]? = some (.slice (some a) len cap) → len * Tryz.prog.bytesOf 58 ≤ 140737488351232) (o2 : Value.okWide Tryz.prog W r b0 50 v2) (t2 : DataW.Trod enc Tryz.prog W 0 spare held 50 v2 d' p') :
    Calls Tryz.prog 4 #[v, v2] W fun e w' => e = .returned (.bool true) ∧ Below W.heap.size W w' := by
  obtain ⟨s, ao, L, cap, rfl, h1, h2, h3, h4, h5⟩ := in_st o t sz
  obtain ⟨u, rfl, h6, h7⟩ := in_tx o2 t2
  have h8 : (L.length + 2) * 40 ≤ 140737488355328 := by
    cases ao with
    | none =>
      have h8 := lcs_length L
      rw [h3.1 rfl] at h8
      simp at h8
      omega
    | some q =>
      have h9 := sz _ q _ _ rfl (s.g7 _)
      rw [show Tryz.prog.bytesOf 58 = 40 by kernel_rfl] at h9
      omega
  obtain ⟨n, L', e, ok, hap⟩ : ∃ n L' e ok, apF (sideS s) L u = ⟨n, L', e, ok⟩ := ⟨_, _, _, _, rfl⟩
  have hk := ap_kl (sideS s) L u
  rw [hap] at hk
  exact (locks s _ ao cap L u n L' e ok hap hk W ⟨h3, sideS_ok h1, h6, rfl, h4, h8⟩).below
end Go.Proofs.YtljbedladifgmaaGreat.Elk
