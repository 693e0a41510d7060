/-
  States that are one, for ledgers. No conditions.
-/
import Derived.Test.YtljbedladifgmaaGreatQAli
namespace Go.Proofs.YtljbedladifgmaaGreat.Sam3
open Go Go.RowKit Eng
set_option linter.unusedVariables false
set_option maxRecDepth 100000
set_option linter.unusedSimpArgs false
open Wide Purse Tx Sha Ss Esc Vau Lck Do Prep Ful Doo Tri App Inn Low Gene Pln Plx Deal Mss Ots Hash Bytes
set_option maxHeartbeats 1000000
variable {s : SS} (hs : SIn s)

theorem reads_of {W : World} : ∀ {L : List Sh} {cs : List Value}, L.length = cs.length → (∀ (k : Nat) (s : Sh) (v : Value), L[k]? = some s → cs[k]? = some v → Sh.Reads W s v) → Sh.ReadsL W L cs
  | [], [], _, _ => rfl
  | [], _ :: _, h, _ => by simp at h
  | _ :: _, [], h, _ => by simp at h
  | s :: L, v :: cs, hl, h => ⟨v, cs, rfl, h 0 s v rfl rfl, reads_of (by simpa using hl) fun k s v hs hv => h (k + 1) s v (by simpa using hs) (by simpa using hv)⟩
theorem no_reads {W : World} {ns : Nat → Int} (h : ∀ j, I64 (ns j)) : Sh.ReadsL W (i64s 8) (ncell ns) := by
  refine reads_of (by rw [ncell_length]; simp [i64s]) fun k s v hs hv => ?_
  have hk : k < 8 := by
    rcases Nat.lt_or_ge k 8 with h1 | h1
    · exact h1
    · rw [List.getElem?_eq_none (by rw [ncell_length]; exact h1)] at hv; cases hv
  rw [show (i64s 8)[k]? = some (.int .i64) by simp only [i64s]; rw [List.getElem?_replicate, if_pos hk]] at hs
  rw [show (ncell ns)[k]? = some (.int .i64 (ns k)) from tab_get hk] at hv
  cases hs; cases hv
  exact ⟨_, rfl, h k⟩
theorem lk_reads {W : World} {k : Lk} (h : LkIn k) : Sh.ReadsL W lksh k.cells := by
  refine ⟨_, _, rfl, ⟨_, rfl, ?_⟩, _, _, rfl, ⟨_, rfl, ?_⟩, _, _, rfl, ⟨_, rfl, h.st⟩, rfl⟩
  · show k.key.toArray.size ≤ maxLen
    simpa using h.key
  · show k.dig.toArray.size ≤ maxLen
    simpa using h.dig
theorem eq_no {ns : Nat → Int} (h : ∀ j, I64 (ns j)) (w : World) : (Op.equal 31 (.agg (ncell ns).toArray) (.agg (ncell ns).toArray)).run Tryz.prog w = .ok true w := eq_flat (k := 3) (L := i64s 8) (by kernel_rfl) (by kernel_rfl) (by kernel_rfl) (by kernel_rfl) (by kernel_rfl) (by decide) (no_reads (W := w) h) (no_reads h) (by simp) w
theorem eq_lk {k : Lk} (h : LkIn k) (w : World) : (Op.equal 58 (.agg k.cells.toArray) (.agg k.cells.toArray)).run Tryz.prog w = .ok true w := eq_flat (k := 3) (L := lksh) (by kernel_rfl) (by kernel_rfl) (by kernel_rfl) (by kernel_rfl) (by kernel_rfl) (by decide) (lk_reads (W := w) h) (lk_reads h) (by simp) w
theorem eq_pu {ns : Nat → Int} (h : ∀ j, Wd (ns j)) (w : World) : (Op.equal 30 (.agg (wvs ns 16).toArray) (.agg (wvs ns 16).toArray)).run Tryz.prog w = .ok true w := wvs_eq (m := 16) (by kernel_rfl) (by kernel_rfl) (by kernel_rfl) (by kernel_rfl) (by kernel_rfl) (fun j _ => h j) (fun j _ => h j) (by simp) w
theorem eq_he {ns : Nat → Int} (h : ∀ j, Wd (ns j)) (w : World) : (Op.equal 28 (.agg (wvs ns 2).toArray) (.agg (wvs ns 2).toArray)).run Tryz.prog w = .ok true w := wvs_eq (m := 2) (by kernel_rfl) (by kernel_rfl) (by kernel_rfl) (by kernel_rfl) (by kernel_rfl) (fun j _ => h j) (fun j _ => h j) (by simp) w
theorem eq_bu {n : Int} (h : Wd n) (w : World) : (Op.equal 27 (.agg (wv n).toArray) (.agg (wv n).toArray)).run Tryz.prog w = .ok true w := by
  have := weq n n ⟨h, h⟩ w
  simpa using this
section
variable {l : TL} {mm T' : Nat} {x y : Operand}
theorem Qv.nePu {ns : Nat → Int} (hx : ev l x = some (.agg (wvs ns 16).toArray)) (hy : ev l y = some (.agg (wvs ns 16).toArray)) (h : ∀ j, Wd (ns j)) : Qv Tryz.prog mm l (.binOp .neq 30 x y T') (.bool false) := Qv.neqA (r := true) hx hy (by kernel_rfl) (fun w => eq_pu h w)
theorem Qv.neHe {ns : Nat → Int} (hx : ev l x = some (.agg (wvs ns 2).toArray)) (hy : ev l y = some (.agg (wvs ns 2).toArray)) (h : ∀ j, Wd (ns j)) : Qv Tryz.prog mm l (.binOp .neq 28 x y T') (.bool false) := Qv.neqA (r := true) hx hy (by kernel_rfl) (fun w => eq_he h w)
theorem Qv.neNo {ns : Nat → Int} (hx : ev l x = some (.agg (ncell ns).toArray)) (hy : ev l y = some (.agg (ncell ns).toArray)) (h : ∀ j, I64 (ns j)) : Qv Tryz.prog mm l (.binOp .neq 31 x y T') (.bool false) := Qv.neqA (r := true) hx hy (by kernel_rfl) (fun w => eq_no h w)
theorem Qv.neBu {n : Int} (hx : ev l x = some (.agg (wv n).toArray)) (hy : ev l y = some (.agg (wv n).toArray)) (h : Wd n) : Qv Tryz.prog mm l (.binOp .neq 27 x y T') (.bool false) := Qv.neqA (r := true) hx hy (by kernel_rfl) (fun w => eq_bu h w)
theorem Qv.neLk {k : Lk} (hx : ev l x = some (.agg (k.cells).toArray)) (hy : ev l y = some (.agg (k.cells).toArray)) (h : LkIn k) : Qv Tryz.prog mm l (.binOp .neq 58 x y T') (.bool false) := Qv.neqA (r := true) hx hy (by kernel_rfl) (fun w => eq_lk h w)
end
theorem same_ (s : SS) (ao ao2 : Option Addr) (cap cap2 : Nat) (L : List Lk) (w : World) (hw : (Rd w ao (lcs L) ∧ Rd w ao2 (lcs L)) ∧ SIn s ∧ LIn L ∧ L.length ≤ maxLen) : CSpec Tryz.prog 36 [.agg (s.cells (.slice ao L.length cap)).toArray, .agg (s.cells (.slice ao2 L.length cap2)).toArray] [] w (Gives (.bool true)) := by
  obtain ⟨⟨hr, hr2⟩, hs, hL, hm⟩ := hw
  have hm9 : L.length ≤ 9223372036854775807 := by unfold maxLen at hm; omega
  have hao : 0 < L.length → ao.isSome = true := fun h => hr.isSome fun e => by
    have h8 := lcs_length L
    rw [e] at h8
    simp at h8
    omega
  have hao2 : 0 < L.length → ao2.isSome = true := fun h => hr2.isSome fun e => by
    have h8 := lcs_length L
    rw [e] at h8
    simp at h8
    omega
  refine spec_own0 Tryz.func36 rfl Tryz.ntmps36 rfl (l0 := [(0, .agg (s.cells (.slice ao L.length cap)).toArray), (1, .agg (s.cells (.slice ao2 L.length cap2)).toArray)]) rfl ?_
  repeat' first
    | (refine J.qv ?_; (with_reducible apply exq); focus (first
      | ((with_reducible apply Qv.nePu); exact rfl; exact rfl; with_reducible first | exact hs.pu | exact hs.va | exact hs.no | exact hs.he | exact hs.bu | exact hL.get _)
      | ((with_reducible apply Qv.neHe); exact rfl; exact rfl; with_reducible first | exact hs.pu | exact hs.va | exact hs.no | exact hs.he | exact hs.bu | exact hL.get _)
      | ((with_reducible apply Qv.neNo); exact rfl; exact rfl; with_reducible first | exact hs.pu | exact hs.va | exact hs.no | exact hs.he | exact hs.bu | exact hL.get _)
      | ((with_reducible apply Qv.neBu); exact rfl; exact rfl; with_reducible first | exact hs.pu | exact hs.va | exact hs.no | exact hs.he | exact hs.bu | exact hL.get _)
      | ((with_reducible apply Qv.neLk); exact rfl; exact rfl; with_reducible first | exact hs.pu | exact hs.va | exact hs.no | exact hs.he | exact hs.bu | exact hL.get _)))
    | (refine J.qr ?_; (with_reducible apply exq); focus (first
      | ((with_reducible apply Qr.ldLv); exact rfl; (focus ((repeat (first | with_reducible exact In.here | with_reducible apply In.there)); done)))
      | ((with_reducible apply Qr.ldPu); exact rfl; (focus ((repeat (first | with_reducible exact In.here | with_reducible apply In.there)); done)))
      | ((with_reducible apply Qr.ldVa); exact rfl; (focus ((repeat (first | with_reducible exact In.here | with_reducible apply In.there)); done)))
      | ((with_reducible apply Qr.ldBu); exact rfl; (focus ((repeat (first | with_reducible exact In.here | with_reducible apply In.there)); done)))
      | ((with_reducible apply Qr.ldTime); exact rfl; (focus ((repeat (first | with_reducible exact In.here | with_reducible apply In.there)); done)))
      | ((with_reducible apply Qr.ldSide); exact rfl; (focus ((repeat (first | with_reducible exact In.here | with_reducible apply In.there)); done)))
      | ((with_reducible apply Qr.ldNoW); exact rfl; (focus ((repeat (first | with_reducible exact In.here | with_reducible apply In.there)); done)))
      | ((with_reducible apply Qr.ldHeW); exact rfl; (focus ((repeat (first | with_reducible exact In.here | with_reducible apply In.there)); done)))))
    | (refine J.qo ?_; refine ⟨?_, ?_⟩; focus (first
      | ((with_reducible apply Qr.ldLv); exact rfl; (focus ((repeat (first | with_reducible exact In.here | with_reducible apply In.there)); done)))
      | ((with_reducible apply Qr.ldPu); exact rfl; (focus ((repeat (first | with_reducible exact In.here | with_reducible apply In.there)); done)))
      | ((with_reducible apply Qr.ldVa); exact rfl; (focus ((repeat (first | with_reducible exact In.here | with_reducible apply In.there)); done)))
      | ((with_reducible apply Qr.ldBu); exact rfl; (focus ((repeat (first | with_reducible exact In.here | with_reducible apply In.there)); done)))
      | ((with_reducible apply Qr.ldTime); exact rfl; (focus ((repeat (first | with_reducible exact In.here | with_reducible apply In.there)); done)))
      | ((with_reducible apply Qr.ldSide); exact rfl; (focus ((repeat (first | with_reducible exact In.here | with_reducible apply In.there)); done)))
      | ((with_reducible apply Qr.ldNoW); exact rfl; (focus ((repeat (first | with_reducible exact In.here | with_reducible apply In.there)); done)))
      | ((with_reducible apply Qr.ldHeW); exact rfl; (focus ((repeat (first | with_reducible exact In.here | with_reducible apply In.there)); done)))))
    | refine J.one ?_
    | refine J.loudS ?_
    | (refine J.loudQ ?_; intro _ _)
    | (refine J.loudB ?_; intro _)
    | (with_reducible apply J.list)
    | ((with_reducible apply J.draw (id := 6) [0, 1, 0, 7, 15, 0, 32, 0, 224, 480, 1023] (.p 0 (.q 1 (.p 2 (.p 3 (.q 4 (.p 5 (.q 6 (.p 7 (.p 8 (.q 9 (.p 10 .nil))))))))))) (by kernel_rfl) ?_ (by kernel_rfl) ?_); (repeat (with_reducible first | exact PanicFree.body | exact PanicFree.np | exact PanicFree.lvS | apply PanicFree.then_ | apply PanicFree.blk)))
    | ((with_reducible apply J.pl2); exact rfl; (first | exact Gd.none | ((with_reducible apply Gd.on); exact rfl; exact rfl)); (repeat (first | (with_reducible exact PendF.nil) | ((with_reducible apply PendF.keep); exact rfl) | ((with_reducible apply PendF.gone); exact rfl))))
    | ((with_reducible apply J.pl2_off); exact rfl; ((with_reducible apply Gd.off); exact rfl; exact rfl; exact rfl); exact rfl; (repeat (first | (with_reducible exact PendF.nil) | ((with_reducible apply PendF.keep); exact rfl) | ((with_reducible apply PendF.gone); exact rfl))))
    | ((with_reducible apply J.pl2_off_none); exact rfl; ((with_reducible apply Gd.off); exact rfl; exact rfl; exact rfl); (repeat (first | (with_reducible exact PendF.nil) | ((with_reducible apply PendF.keep); exact rfl) | ((with_reducible apply PendF.gone); exact rfl))))
    | ((with_reducible first | apply J.psplit0 | apply J.psplit1 | apply J.psplit2); exact rfl; exact rfl; exact rfl)
    | (with_reducible exact J.pl_none)
    | ((with_reducible apply J.gsplit); exact rfl; exact rfl)
    | ((with_reducible first | apply J.cond | apply JC.cond); exact rfl)
    | (intro h; exfalso; (first | (simp at h; done) | omega))
    | (intro h; (try simp only [decide_eq_true_eq, decide_eq_false_iff_not, beq_iff_eq, beq_eq_false_iff_ne, Bool.not_eq_true', Bool.not_eq_false', bne_iff_ne, bne_eq_false_iff_eq, ne_eq, ge_iff_le, gt_iff_lt] at h))
    | (with_reducible apply J.gave')
    | ((with_reducible apply J.kept'); rotate_left; (repeat (first | (with_reducible exact Outs.nil) | ((with_reducible apply Outs.cons); (repeat (first | with_reducible exact Out.here | with_reducible apply Out.there))))))
  rename_i b2 b3 _ _
  apply J.loopI (σ := Nat) (I := fun k => k ≤ L.length) (L := fun k => [(2, .pointer (some ⟨b2, 0, none⟩)), (3, .pointer (some ⟨b3, 0, none⟩)), (5, .int .i64 (k : Int))]) (HH := fun k => [blk b2 (s.cells (.slice ao L.length cap)) 34, blk b3 (s.cells (.slice ao2 L.length cap2)) 34]) (m := fun k => L.length - k) (s0 := 0)
  · ((try dsimp only); omega)
  · ((try dsimp only); repeat (first | exact sub.nil _ | (refine sub.consE rfl ?_ ?_; (first | with_reducible rfl | (fail) | rfl))))
  · ((try dsimp only); (repeat (first | (with_reducible exact Outs.nil) | ((with_reducible apply Outs.cons); (repeat (first | with_reducible exact Out.here | with_reducible apply Out.there))))))
  rintro k hI
  try dsimp only at hI ⊢
  repeat' first
    | (refine J.qv ?_; (with_reducible apply exq); focus (first
      | ((with_reducible apply Qv.nePu); exact rfl; exact rfl; with_reducible first | exact hs.pu | exact hs.va | exact hs.no | exact hs.he | exact hs.bu | exact hL.get _)
      | ((with_reducible apply Qv.neHe); exact rfl; exact rfl; with_reducible first | exact hs.pu | exact hs.va | exact hs.no | exact hs.he | exact hs.bu | exact hL.get _)
      | ((with_reducible apply Qv.neNo); exact rfl; exact rfl; with_reducible first | exact hs.pu | exact hs.va | exact hs.no | exact hs.he | exact hs.bu | exact hL.get _)
      | ((with_reducible apply Qv.neBu); exact rfl; exact rfl; with_reducible first | exact hs.pu | exact hs.va | exact hs.no | exact hs.he | exact hs.bu | exact hL.get _)
      | ((with_reducible apply Qv.neLk); exact rfl; exact rfl; with_reducible first | exact hs.pu | exact hs.va | exact hs.no | exact hs.he | exact hs.bu | exact hL.get _)
      | ((with_reducible apply Qv.indexSrcs (k := k)); exact rfl; exact rfl; (focus omega); (focus omega); exact hao (by omega))
      | ((with_reducible apply Qv.indexSrcs (k := k)); exact rfl; exact rfl; (focus omega); (focus omega); exact hao2 (by omega))))
    | (refine J.qr ?_; (with_reducible apply exq); focus (first
      | ((with_reducible apply Qr.ldLv); exact rfl; (focus ((repeat (first | with_reducible exact In.here | with_reducible apply In.there)); done)))
      | ((with_reducible apply Qr.rdN (C := lcs L) (j := k * 3) (cs := (L.getD k lk0).cells)); exact rfl; exact RH.old hr; exact lcs_at (by omega); exact rfl)
      | ((with_reducible apply Qr.rdN (C := lcs L) (j := k * 3) (cs := (L.getD k lk0).cells)); exact rfl; exact RH.old hr2; exact lcs_at (by omega); exact rfl)))
    | (refine J.qo ?_; refine ⟨?_, ?_⟩; focus (first
      | ((with_reducible apply Qr.ldLv); exact rfl; (focus ((repeat (first | with_reducible exact In.here | with_reducible apply In.there)); done)))
      | ((with_reducible apply Qr.rdN (C := lcs L) (j := k * 3) (cs := (L.getD k lk0).cells)); exact rfl; exact RH.old hr; exact lcs_at (by omega); exact rfl)
      | ((with_reducible apply Qr.rdN (C := lcs L) (j := k * 3) (cs := (L.getD k lk0).cells)); exact rfl; exact RH.old hr2; exact lcs_at (by omega); exact rfl)))
    | refine J.one ?_
    | refine J.loudS ?_
    | (refine J.loudQ ?_; intro _ _)
    | (refine J.loudB ?_; intro _)
    | (with_reducible apply J.list)
    | ((with_reducible apply J.draw (id := 6) [0, 1, 0, 7, 15, 0, 32, 0, 224, 480, 1023] (.p 0 (.q 1 (.p 2 (.p 3 (.q 4 (.p 5 (.q 6 (.p 7 (.p 8 (.q 9 (.p 10 .nil))))))))))) (by kernel_rfl) ?_ (by kernel_rfl) ?_); (repeat (with_reducible first | exact PanicFree.body | exact PanicFree.np | exact PanicFree.lvS | apply PanicFree.then_ | apply PanicFree.blk)))
    | ((with_reducible apply J.pl2); exact rfl; (first | exact Gd.none | ((with_reducible apply Gd.on); exact rfl; exact rfl)); (repeat (first | (with_reducible exact PendF.nil) | ((with_reducible apply PendF.keep); exact rfl) | ((with_reducible apply PendF.gone); exact rfl))))
    | ((with_reducible apply J.pl2_off); exact rfl; ((with_reducible apply Gd.off); exact rfl; exact rfl; exact rfl); exact rfl; (repeat (first | (with_reducible exact PendF.nil) | ((with_reducible apply PendF.keep); exact rfl) | ((with_reducible apply PendF.gone); exact rfl))))
    | ((with_reducible apply J.pl2_off_none); exact rfl; ((with_reducible apply Gd.off); exact rfl; exact rfl; exact rfl); (repeat (first | (with_reducible exact PendF.nil) | ((with_reducible apply PendF.keep); exact rfl) | ((with_reducible apply PendF.gone); exact rfl))))
    | ((with_reducible first | apply J.psplit0 | apply J.psplit1 | apply J.psplit2); exact rfl; exact rfl; exact rfl)
    | (with_reducible exact J.pl_none)
    | ((with_reducible apply J.gsplit); exact rfl; exact rfl)
    | ((with_reducible first | apply J.cond | apply JC.cond); exact rfl)
    | (intro h; exfalso; (first | (simp at h; done) | omega))
    | (intro h; (try simp only [decide_eq_true_eq, decide_eq_false_iff_not, beq_iff_eq, beq_eq_false_iff_ne, Bool.not_eq_true', Bool.not_eq_false', bne_iff_ne, bne_eq_false_iff_eq, ne_eq, ge_iff_le, gt_iff_lt] at h))
    | (with_reducible apply J.gave')
    | ((with_reducible apply J.kept'); rotate_left; (repeat (first | (with_reducible exact Outs.nil) | ((with_reducible apply Outs.cons); (repeat (first | with_reducible exact Out.here | with_reducible apply Out.there))))))
  all_goals first
    | rfl
    | (apply J.againI (s := k) (s' := (k + 1)); (focus (omega)); (focus ((try dsimp only); omega)); (focus (((try dsimp only); repeat (first | exact sub.nil _ | (refine sub.consE rfl ?_ ?_; (first | with_reducible rfl | ((focus (congr 1; omega))) | rfl)))))); ((try dsimp only); (repeat (first | (with_reducible exact Outs.nil) | ((with_reducible apply Outs.cons); (repeat (first | with_reducible exact Out.here | with_reducible apply Out.there)))))))
    | (trace_state; fail)
end Go.Proofs.YtljbedladifgmaaGreat.Sam3
