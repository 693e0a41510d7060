/-
  The reference automaton: less, more, what is held; plain kinds. No conditions.
-/
import Derived.Test.YtljbedladifgmaaGreatQLks
namespace Go.Proofs.YtljbedladifgmaaGreat.R12
open Go Go.RowKit Eng
set_option linter.unusedVariables false
set_option maxRecDepth 100000
set_option linter.unusedSimpArgs false
open Wide Purse Tx Sha Ss Esc Vau Lck Do Prep Ful Doo Tri App Inn Low Gene Pln Plx Sam Alv Deal Mss Ots Hash Bytes R6 R6b Lks
set_option maxHeartbeats 1000000
/-- Less, more, of a list. -/
def lsF (ns : Nat → Int) (k : Nat) (x : Int) : (Nat → Int) × Bool := if x ≤ ns k then (upd ns k (ns k - x), true) else (ns, false)
def mrF (ns : Nat → Int) (k : Nat) (x : Int) : (Nat → Int) × Bool := if ns k + x < 115792089237316195423570985008687907853269984665640564039457584007913129639936 then (upd ns k (ns k + x), true) else (ns, false)
theorem lsF_y {ns : Nat → Int} {k : Nat} {x : Int} (h : x ≤ ns k) : lsF ns k x = (upd ns k (ns k - x), true) := if_pos h
theorem lsF_n {ns : Nat → Int} {k : Nat} {x : Int} (h : ¬ x ≤ ns k) : lsF ns k x = (ns, false) := if_neg h
theorem mrF_y {ns : Nat → Int} {k : Nat} {x : Int} (h : ns k + x < 115792089237316195423570985008687907853269984665640564039457584007913129639936) : mrF ns k x = (upd ns k (ns k + x), true) := if_pos h
theorem mrF_n {ns : Nat → Int} {k : Nat} {x : Int} (h : ¬ ns k + x < 115792089237316195423570985008687907853269984665640564039457584007913129639936) : mrF ns k x = (ns, false) := if_neg h
theorem wsub_y {a b : Int} (h : b ≤ a) : wsub a b = a - b := if_pos h
theorem wadd_y {a b : Int} (h : a + b < 115792089237316195423570985008687907853269984665640564039457584007913129639936) : wadd a b = a + b := if_pos h
theorem lsF_wd {ns : Nat → Int} {k : Nat} {x : Int} (h : ∀ j, Wd (ns j)) (hx : Wd x) (j : Nat) : Wd ((lsF ns k x).1 j) := by
  unfold lsF
  split
  · dsimp only [upd]
    split
    · have := h k; unfold Wd at *; omega
    · exact h j
  · exact h j
theorem mrF_wd {ns : Nat → Int} {k : Nat} {x : Int} (h : ∀ j, Wd (ns j)) (hx : Wd x) (j : Nat) : Wd ((mrF ns k x).1 j) := by
  unfold mrF
  split
  · dsimp only [upd]
    split
    · have := h k; unfold Wd at *; omega
    · exact h j
  · exact h j
theorem SS.zero : SS.cells ⟨0, 0, fun _ => 0, fun _ => 0, fun _ => 0, fun _ => 0, 0⟩ (.slice none 0 0) = SS.cells ⟨0, 0, fun _ => 0, fun _ => 0, fun _ => 0, fun _ => 0, 0⟩ (.slice none 0 0) := rfl
theorem less (ns : Nat → Int) (i x : Int) (w : World) (hw : (∀ j, Wd (ns j)) ∧ Wd x ∧ 0 ≤ i ∧ i < 16) : CSpec Tryz.prog 51 [.agg (wvs ns 16).toArray, .int .i64 i, .agg (wv x).toArray] [] w (Gives (.tuple #[.agg (wvs (lsF ns i.toNat x).1 16).toArray, .bool (lsF ns i.toNat x).2])) := by
  obtain ⟨hn, hx, h0, h1⟩ := hw
  refine spec_own0 Tryz.func51 rfl Tryz.ntmps51 rfl (l0 := [(0, .agg (wvs ns 16).toArray), (1, .int .i64 i), (2, .agg (wv x).toArray)]) rfl ?_
  repeat' first
    | (refine J.qv ?_; (with_reducible apply exq); focus (first
      | ((with_reducible apply Qv.indexArr); exact rfl; exact rfl; (focus (constructor <;> omega)); exact rfl)))
    | (refine J.qr ?_; (with_reducible apply exq); focus (first
      | ((with_reducible apply Qr.loadN); exact rfl; (focus ((repeat (first | with_reducible exact In.here | with_reducible apply In.there)); done)); (with_reducible refine wvs_get (k := i.toNat) ?_ ?_); (focus omega); (focus omega); with_reducible exact wv_length _)
      | ((with_reducible apply Qr.loadFull); exact rfl; (focus ((repeat (first | with_reducible exact In.here | with_reducible apply In.there)); done)); (with_reducible first | exact wv_length _ | exact wvs_len16 _ | exact SS.len _ _))))
    | (refine J.qo ?_; refine ⟨?_, ?_⟩; focus (first
      | ((with_reducible apply Qr.loadN); exact rfl; (focus ((repeat (first | with_reducible exact In.here | with_reducible apply In.there)); done)); (with_reducible refine wvs_get (k := i.toNat) ?_ ?_); (focus omega); (focus omega); with_reducible exact wv_length _)
      | ((with_reducible apply Qr.loadFull); exact rfl; (focus ((repeat (first | with_reducible exact In.here | with_reducible apply In.there)); done)); (with_reducible first | exact wv_length _ | exact wvs_len16 _ | exact SS.len _ _))))
    | ((with_reducible apply J.storeN); exact rfl; exact rfl; (repeat (first | with_reducible exact Upd.here | with_reducible apply Upd.there)); (with_reducible refine wvs_set (k := i.toNat) ?_ ?_); (focus omega); (focus omega); (with_reducible exact wv_length _); (focus (rw [wvs_length]; omega)); with_reducible exact wv_ones _)
    | ((with_reducible apply J.storeFull); exact rfl; exact rfl; (repeat (first | with_reducible exact Upd.here | with_reducible apply Upd.there)); (with_reducible first | exact wv_length _ | exact wvs_len16 _ | exact SS.len _ _); (focus (first | (with_reducible first | exact wv_length _ | exact wvs_len16 _ | exact SS.len _ _) | kernel_rfl)); (with_reducible first | exact wv_ones _ | exact wvs_ones _ _ | exact SS.ones _ _ _ _))
    | ((with_reducible apply J.allocW); exact rfl; exact rfl; intro _)
    | ((with_reducible apply J.givesP (Ref.sub_r _ _)); exact rfl; exact rfl; exact ⟨hn _, hx⟩)
    | refine J.one ?_
    | refine J.loudS ?_
    | (refine J.loudQ ?_; intro _ _)
    | (refine J.loudB ?_; intro _)
    | (with_reducible apply J.list)
    | ((with_reducible apply J.draw (id := 1) [0, 1, 3, 0, 15, 31, 63, 63, 0, 383, 1023] (.p 0 (.p 1 (.q 2 (.q 3 (.x 4 (.p 5 (.p 6 (.p 7 (.x 8 (.x 9 (.p 10 .nil) .none) .none)))) (.x 8 (.x 4 (.p 5 (.p 6 (.p 7 (.x 9 (.p 10 .nil) .none)))) .none) .none)))))) (by kernel_rfl) ?_ (by kernel_rfl) ?_); (repeat (with_reducible first | exact PanicFree.body | exact PanicFree.np | exact PanicFree.lvS | apply PanicFree.then_ | apply PanicFree.blk)))
    | ((with_reducible apply J.pl2); exact rfl; (first | exact Gd.none | ((with_reducible apply Gd.on); exact rfl; exact rfl)); (first | exact pend_au | fail))
    | ((with_reducible apply J.pl2_off); exact rfl; ((with_reducible apply Gd.off); exact rfl; exact rfl; exact rfl); exact rfl; (first | exact pend_au | fail))
    | ((with_reducible apply J.pl2_off_none); exact rfl; ((with_reducible apply Gd.off); exact rfl; exact rfl; exact rfl); (first | exact pend_au | fail))
    | ((with_reducible first | apply J.psplit0 | apply J.psplit1 | apply J.psplit2); exact rfl; exact rfl; exact rfl)
    | (with_reducible exact J.pl_none)
    | ((with_reducible apply J.gsplit); exact rfl; exact rfl)
    | ((with_reducible first | apply J.cond | apply JC.cond); exact rfl)
    | (intro h; exfalso; (simp at h; done))
    | (intro h; (try simp only [decide_eq_true_eq, decide_eq_false_iff_not, beq_iff_eq, beq_eq_false_iff_ne, Bool.not_eq_true', Bool.not_eq_false', bne_iff_ne, bne_eq_false_iff_eq, ne_eq, ge_iff_le, gt_iff_lt] at h))
    | (with_reducible apply J.gave')
    | ((with_reducible apply J.kept'); rotate_left; (first | exact outs_au | fail))
  all_goals
    first
    | (simp only [retv]; rw [lsF_y (by assumption), wsub_y (by assumption), decide_eq_true (by assumption)]; done)
    | (simp only [retv]; rw [lsF_n (by assumption), decide_eq_false (by assumption)]; done)
    | (trace_state; fail)
theorem more (ns : Nat → Int) (i x : Int) (w : World) (hw : (∀ j, Wd (ns j)) ∧ Wd x ∧ 0 ≤ i ∧ i < 16) : CSpec Tryz.prog 93 [.agg (wvs ns 16).toArray, .int .i64 i, .agg (wv x).toArray] [] w (Gives (.tuple #[.agg (wvs (mrF ns i.toNat x).1 16).toArray, .bool (mrF ns i.toNat x).2])) := by
  obtain ⟨hn, hx, h0, h1⟩ := hw
  refine spec_own0 Tryz.func93 rfl Tryz.ntmps93 rfl (l0 := [(0, .agg (wvs ns 16).toArray), (1, .int .i64 i), (2, .agg (wv x).toArray)]) rfl ?_
  repeat' first
    | (refine J.qv ?_; (with_reducible apply exq); focus (first
      | ((with_reducible apply Qv.indexArr); exact rfl; exact rfl; (focus (constructor <;> omega)); exact rfl)))
    | (refine J.qr ?_; (with_reducible apply exq); focus (first
      | ((with_reducible apply Qr.loadN); exact rfl; (focus ((repeat (first | with_reducible exact In.here | with_reducible apply In.there)); done)); (with_reducible refine wvs_get (k := i.toNat) ?_ ?_); (focus omega); (focus omega); with_reducible exact wv_length _)
      | ((with_reducible apply Qr.loadFull); exact rfl; (focus ((repeat (first | with_reducible exact In.here | with_reducible apply In.there)); done)); (with_reducible first | exact wv_length _ | exact wvs_len16 _ | exact SS.len _ _))))
    | (refine J.qo ?_; refine ⟨?_, ?_⟩; focus (first
      | ((with_reducible apply Qr.loadN); exact rfl; (focus ((repeat (first | with_reducible exact In.here | with_reducible apply In.there)); done)); (with_reducible refine wvs_get (k := i.toNat) ?_ ?_); (focus omega); (focus omega); with_reducible exact wv_length _)
      | ((with_reducible apply Qr.loadFull); exact rfl; (focus ((repeat (first | with_reducible exact In.here | with_reducible apply In.there)); done)); (with_reducible first | exact wv_length _ | exact wvs_len16 _ | exact SS.len _ _))))
    | ((with_reducible apply J.storeN); exact rfl; exact rfl; (repeat (first | with_reducible exact Upd.here | with_reducible apply Upd.there)); (with_reducible refine wvs_set (k := i.toNat) ?_ ?_); (focus omega); (focus omega); (with_reducible exact wv_length _); (focus (rw [wvs_length]; omega)); with_reducible exact wv_ones _)
    | ((with_reducible apply J.storeFull); exact rfl; exact rfl; (repeat (first | with_reducible exact Upd.here | with_reducible apply Upd.there)); (with_reducible first | exact wv_length _ | exact wvs_len16 _ | exact SS.len _ _); (focus (first | (with_reducible first | exact wv_length _ | exact wvs_len16 _ | exact SS.len _ _) | kernel_rfl)); (with_reducible first | exact wv_ones _ | exact wvs_ones _ _ | exact SS.ones _ _ _ _))
    | ((with_reducible apply J.allocW); exact rfl; exact rfl; intro _)
    | ((with_reducible apply J.givesP (Ref.add_r _ _)); exact rfl; exact rfl; exact ⟨hn _, hx⟩)
    | refine J.one ?_
    | refine J.loudS ?_
    | (refine J.loudQ ?_; intro _ _)
    | (refine J.loudB ?_; intro _)
    | (with_reducible apply J.list)
    | ((with_reducible apply J.draw (id := 1) [0, 1, 3, 0, 15, 31, 63, 63, 0, 383, 1023] (.p 0 (.p 1 (.q 2 (.q 3 (.x 4 (.p 5 (.p 6 (.p 7 (.x 8 (.x 9 (.p 10 .nil) .none) .none)))) (.x 8 (.x 4 (.p 5 (.p 6 (.p 7 (.x 9 (.p 10 .nil) .none)))) .none) .none)))))) (by kernel_rfl) ?_ (by kernel_rfl) ?_); (repeat (with_reducible first | exact PanicFree.body | exact PanicFree.np | exact PanicFree.lvS | apply PanicFree.then_ | apply PanicFree.blk)))
    | ((with_reducible apply J.pl2); exact rfl; (first | exact Gd.none | ((with_reducible apply Gd.on); exact rfl; exact rfl)); (first | exact pend_au | fail))
    | ((with_reducible apply J.pl2_off); exact rfl; ((with_reducible apply Gd.off); exact rfl; exact rfl; exact rfl); exact rfl; (first | exact pend_au | fail))
    | ((with_reducible apply J.pl2_off_none); exact rfl; ((with_reducible apply Gd.off); exact rfl; exact rfl; exact rfl); (first | exact pend_au | fail))
    | ((with_reducible first | apply J.psplit0 | apply J.psplit1 | apply J.psplit2); exact rfl; exact rfl; exact rfl)
    | (with_reducible exact J.pl_none)
    | ((with_reducible apply J.gsplit); exact rfl; exact rfl)
    | ((with_reducible first | apply J.cond | apply JC.cond); exact rfl)
    | (intro h; exfalso; (simp at h; done))
    | (intro h; (try simp only [decide_eq_true_eq, decide_eq_false_iff_not, beq_iff_eq, beq_eq_false_iff_ne, Bool.not_eq_true', Bool.not_eq_false', bne_iff_ne, bne_eq_false_iff_eq, ne_eq, ge_iff_le, gt_iff_lt] at h))
    | (with_reducible apply J.gave')
    | ((with_reducible apply J.kept'); rotate_left; (first | exact outs_au | fail))
  all_goals
    first
    | (simp only [retv]; rw [mrF_y (by assumption), wadd_y (by assumption), decide_eq_true (by assumption)]; done)
    | (simp only [retv]; rw [mrF_n (by assumption), decide_eq_false (by assumption)]; done)
    | (trace_state; fail)
def SS.wVa (s : SS) (p : Nat → Int) : SS := ⟨s.side, s.time, s.pu, p, s.no, s.he, s.bu⟩
def SS.wHe (s : SS) (p : Nat → Int) : SS := ⟨s.side, s.time, s.pu, s.va, s.no, p, s.bu⟩
section
variable {P : Program} {c : Cx} {l : TL} {H : List Asrt} {Q : Exit → Act → World → Prop} {X : Act → World → Prop}
variable {ty : TypeId} {pos : String} {af : Array Edge} {d : Nat} {v : Value} {dst : Option Tmp} {mm : Nat}
theorem J.wVa {T : Nat} {z : List Value} [i : Ty P T true 64 z] {x y : Operand} {b : Nat} {s : SS} {lv : Value} {E : TypeId} {H' : List Asrt} {p : Nat → Int} (hx : ev l x = some (.pointer (some ⟨b, 66, none⟩))) (hy : ev l y = some (.agg (wvs p 16).toArray)) (hu : Upd (blk b (s.cells lv) E) (blk b (SS.cells (SS.wVa s p) lv) E) H H') (K : J c l H' X) : J c l H (OW P Q ⟨none, .store T x y, ty, pos, af, none⟩ X) := J.stVa hx hy hu K
theorem J.wHe {T : Nat} {z : List Value} [i : Ty P T true 4 z] {x y : Operand} {b : Nat} {s : SS} {lv : Value} {E : TypeId} {H' : List Asrt} {a p : Int} (h0 : 0 ≤ a) (h1 : a ≤ 1) (hx : ev l x = some (.pointer (some ⟨b, 138 + a.toNat * 4, none⟩))) (hy : ev l y = some (.agg (wv p).toArray)) (hu : Upd (blk b (s.cells lv) E) (blk b (SS.cells (SS.wHe s (upd s.he a.toNat p)) lv) E) H H') (K : J c l H' X) : J c l H (OW P Q ⟨none, .store T x y, ty, pos, af, none⟩ X) := J.stHe h0 h1 hx hy hu K
end
def hdF (s : SS) (a x : Int) (up : Bool) : SS × Bool := if up = true then (if s.he a.toNat + x < 115792089237316195423570985008687907853269984665640564039457584007913129639936 then (SS.wHe s (upd s.he a.toNat (s.he a.toNat + x)), true) else (s, false)) else (if x ≤ s.he a.toNat then (SS.wHe s (upd s.he a.toNat (s.he a.toNat - x)), true) else (s, false))
theorem hdF_uy {s : SS} {a x : Int} (h : s.he a.toNat + x < 115792089237316195423570985008687907853269984665640564039457584007913129639936) : hdF s a x true = (SS.wHe s (upd s.he a.toNat (s.he a.toNat + x)), true) := by unfold hdF; rw [if_pos rfl, if_pos h]
theorem hdF_un {s : SS} {a x : Int} (h : ¬ s.he a.toNat + x < 115792089237316195423570985008687907853269984665640564039457584007913129639936) : hdF s a x true = (s, false) := by unfold hdF; rw [if_pos rfl, if_neg h]
theorem hdF_dy {s : SS} {a x : Int} (h : x ≤ s.he a.toNat) : hdF s a x false = (SS.wHe s (upd s.he a.toNat (s.he a.toNat - x)), true) := by unfold hdF; rw [if_neg (by decide), if_pos h]
theorem hdF_dn {s : SS} {a x : Int} (h : ¬ x ≤ s.he a.toNat) : hdF s a x false = (s, false) := by unfold hdF; rw [if_neg (by decide), if_neg h]
theorem held_t (s : SS) (lv : Value) (a x : Int) (w : World) (hw : (∀ j, Wd (s.he j)) ∧ Wd x ∧ 0 ≤ a ∧ a ≤ 1 ∧ ∃ ao n cap, lv = .slice ao n cap) : CSpec Tryz.prog 89 [.agg (s.cells lv).toArray, .int .i64 a, .agg (wv x).toArray, .bool true] [] w (Gives (.tuple #[.agg ((hdF s a x true).1.cells lv).toArray, .bool (hdF s a x true).2])) := by
  obtain ⟨hn, hx, h0, h1, ao, n, cap, rfl⟩ := hw
  refine spec_own0 Tryz.func89 rfl Tryz.ntmps89 rfl (l0 := [(0, .agg (s.cells (.slice ao n cap)).toArray), (1, .int .i64 a), (2, .agg (wv x).toArray), (3, .bool true)]) rfl ?_
  repeat' first
    | ((with_reducible apply J.ret); exact rfl; exact rfl; (repeat (first | (with_reducible exact Res.nil) | ((with_reducible apply Res.tmp); exact rfl) | ((with_reducible apply Res.full); exact rfl; (focus ((repeat (first | with_reducible exact In.here | with_reducible apply In.there)); done)); (with_reducible exact SS.len _ _)) | ((with_reducible apply Res.cell1); exact rfl; (repeat (first | with_reducible exact In.here | with_reducible apply In.there)); exact rfl))); exact rfl)
    | (refine J.qv ?_; (with_reducible apply exq); focus (first
      | ((with_reducible apply Qv.indexArr); exact rfl; exact rfl; (focus (constructor <;> omega)); exact rfl)))
    | (refine J.qr ?_; (with_reducible apply exq); focus (first
      | ((with_reducible apply Qr.ldHe (a := a)); exact rfl; (focus ((repeat (first | with_reducible exact In.here | with_reducible apply In.there)); done)); omega; omega)
      | ((with_reducible apply Qr.loadFull); exact rfl; (focus ((repeat (first | with_reducible exact In.here | with_reducible apply In.there)); done)); (with_reducible first | exact wv_length _ | exact wvs_len16 _ | exact SS.len _ _))))
    | (refine J.qo ?_; refine ⟨?_, ?_⟩; focus (first
      | ((with_reducible apply Qr.ldHe (a := a)); exact rfl; (focus ((repeat (first | with_reducible exact In.here | with_reducible apply In.there)); done)); omega; omega)
      | ((with_reducible apply Qr.loadFull); exact rfl; (focus ((repeat (first | with_reducible exact In.here | with_reducible apply In.there)); done)); (with_reducible first | exact wv_length _ | exact wvs_len16 _ | exact SS.len _ _))))
    | ((with_reducible apply J.wHe (a := a)); omega; omega; exact rfl; exact rfl; (repeat (first | with_reducible exact Upd.here | with_reducible apply Upd.there)))
    | ((with_reducible apply J.storeFull); exact rfl; exact rfl; (repeat (first | with_reducible exact Upd.here | with_reducible apply Upd.there)); (with_reducible first | exact wv_length _ | exact wvs_len16 _ | exact SS.len _ _); (focus (first | (with_reducible first | exact wv_length _ | exact wvs_len16 _ | exact SS.len _ _) | kernel_rfl)); (with_reducible first | exact wv_ones _ | exact wvs_ones _ _ | exact SS.ones _ _ _ _))
    | ((with_reducible apply J.storeFull); exact rfl; exact rfl; (repeat (first | with_reducible exact Upd.here | with_reducible apply Upd.there)); (with_reducible exact SS.len _ _); (focus (first | (with_reducible exact SS.len _ _) | kernel_rfl)); with_reducible exact SS.ones _ _ _ _)
    | ((with_reducible apply J.allocW); exact rfl; exact rfl; intro _)
    | ((with_reducible apply J.givesP (Ref.sub_r _ _)); exact rfl; exact rfl; exact ⟨hn _, hx⟩)
    | ((with_reducible apply J.givesP (Ref.add_r _ _)); exact rfl; exact rfl; exact ⟨hn _, hx⟩)
    | refine J.one ?_
    | refine J.loudS ?_
    | (refine J.loudQ ?_; intro _ _)
    | (refine J.loudB ?_; intro _)
    | (with_reducible apply J.list)
    | ((with_reducible apply J.draw (id := 1) [0, 0, 3, 7, 0, 31, 63, 127, 127, 0, 767, 2047] (.p 0 (.p 1 (.p 2 (.q 3 (.q 4 (.x 5 (.p 6 (.p 7 (.p 8 (.x 9 (.x 10 (.p 11 .nil) .none) .none)))) (.x 9 (.x 5 (.p 6 (.p 7 (.p 8 (.x 10 (.p 11 .nil) .none)))) .none) .none))))))) (by kernel_rfl) ?_ (by kernel_rfl) ?_); (repeat (with_reducible first | exact PanicFree.body | exact PanicFree.np | exact PanicFree.lvS | apply PanicFree.then_ | apply PanicFree.blk)))
    | ((with_reducible apply J.draw (id := 3) [0, 0, 3, 7, 0, 31, 63, 127, 127, 255, 1023] (.p 0 (.p 1 (.p 2 (.q 3 (.q 4 (.x 5 (.p 6 (.p 7 (.p 8 (.x 9 (.p 10 .nil) .none)))) .none)))))) (by kernel_rfl) ?_ (by kernel_rfl) ?_); (repeat (with_reducible first | exact PanicFree.body | exact PanicFree.np | exact PanicFree.lvS | apply PanicFree.then_ | apply PanicFree.blk)))
    | ((with_reducible apply J.pl2); exact rfl; (first | exact Gd.none | ((with_reducible apply Gd.on); exact rfl; exact rfl)); (first | exact pend_au | fail))
    | ((with_reducible apply J.pl2_off); exact rfl; ((with_reducible apply Gd.off); exact rfl; exact rfl; exact rfl); exact rfl; (first | exact pend_au | fail))
    | ((with_reducible apply J.pl2_off_none); exact rfl; ((with_reducible apply Gd.off); exact rfl; exact rfl; exact rfl); (first | exact pend_au | fail))
    | ((with_reducible first | apply J.psplit0 | apply J.psplit1 | apply J.psplit2); exact rfl; exact rfl; exact rfl)
    | (with_reducible exact J.pl_none)
    | ((with_reducible apply J.gsplit); exact rfl; exact rfl)
    | ((with_reducible first | apply J.cond | apply JC.cond); exact rfl)
    | (intro h; exfalso; (simp at h; done))
    | (intro h; (try simp only [decide_eq_true_eq, decide_eq_false_iff_not, beq_iff_eq, beq_eq_false_iff_ne, Bool.not_eq_true', Bool.not_eq_false', bne_iff_ne, bne_eq_false_iff_eq, ne_eq, ge_iff_le, gt_iff_lt] at h))
    | (with_reducible apply J.gave')
    | ((with_reducible apply J.kept'); rotate_left; (first | exact outs_au | fail))
  all_goals
    first
    | (simp only [retv]; rw [hdF_uy (by assumption), wadd_y (by assumption), decide_eq_true (by assumption)]; done)
    | (simp only [retv]; rw [hdF_un (by assumption), decide_eq_false (by assumption)]; done)
    | (trace_state; fail)
theorem held_f (s : SS) (lv : Value) (a x : Int) (w : World) (hw : (∀ j, Wd (s.he j)) ∧ Wd x ∧ 0 ≤ a ∧ a ≤ 1 ∧ ∃ ao n cap, lv = .slice ao n cap) : CSpec Tryz.prog 89 [.agg (s.cells lv).toArray, .int .i64 a, .agg (wv x).toArray, .bool false] [] w (Gives (.tuple #[.agg ((hdF s a x false).1.cells lv).toArray, .bool (hdF s a x false).2])) := by
  obtain ⟨hn, hx, h0, h1, ao, n, cap, rfl⟩ := hw
  refine spec_own0 Tryz.func89 rfl Tryz.ntmps89 rfl (l0 := [(0, .agg (s.cells (.slice ao n cap)).toArray), (1, .int .i64 a), (2, .agg (wv x).toArray), (3, .bool false)]) rfl ?_
  repeat' first
    | ((with_reducible apply J.ret); exact rfl; exact rfl; (repeat (first | (with_reducible exact Res.nil) | ((with_reducible apply Res.tmp); exact rfl) | ((with_reducible apply Res.full); exact rfl; (focus ((repeat (first | with_reducible exact In.here | with_reducible apply In.there)); done)); (with_reducible exact SS.len _ _)) | ((with_reducible apply Res.cell1); exact rfl; (repeat (first | with_reducible exact In.here | with_reducible apply In.there)); exact rfl))); exact rfl)
    | (refine J.qv ?_; (with_reducible apply exq); focus (first
      | ((with_reducible apply Qv.indexArr); exact rfl; exact rfl; (focus (constructor <;> omega)); exact rfl)))
    | (refine J.qr ?_; (with_reducible apply exq); focus (first
      | ((with_reducible apply Qr.ldHe (a := a)); exact rfl; (focus ((repeat (first | with_reducible exact In.here | with_reducible apply In.there)); done)); omega; omega)
      | ((with_reducible apply Qr.loadFull); exact rfl; (focus ((repeat (first | with_reducible exact In.here | with_reducible apply In.there)); done)); (with_reducible first | exact wv_length _ | exact wvs_len16 _ | exact SS.len _ _))))
    | (refine J.qo ?_; refine ⟨?_, ?_⟩; focus (first
      | ((with_reducible apply Qr.ldHe (a := a)); exact rfl; (focus ((repeat (first | with_reducible exact In.here | with_reducible apply In.there)); done)); omega; omega)
      | ((with_reducible apply Qr.loadFull); exact rfl; (focus ((repeat (first | with_reducible exact In.here | with_reducible apply In.there)); done)); (with_reducible first | exact wv_length _ | exact wvs_len16 _ | exact SS.len _ _))))
    | ((with_reducible apply J.wHe (a := a)); omega; omega; exact rfl; exact rfl; (repeat (first | with_reducible exact Upd.here | with_reducible apply Upd.there)))
    | ((with_reducible apply J.storeFull); exact rfl; exact rfl; (repeat (first | with_reducible exact Upd.here | with_reducible apply Upd.there)); (with_reducible first | exact wv_length _ | exact wvs_len16 _ | exact SS.len _ _); (focus (first | (with_reducible first | exact wv_length _ | exact wvs_len16 _ | exact SS.len _ _) | kernel_rfl)); (with_reducible first | exact wv_ones _ | exact wvs_ones _ _ | exact SS.ones _ _ _ _))
    | ((with_reducible apply J.storeFull); exact rfl; exact rfl; (repeat (first | with_reducible exact Upd.here | with_reducible apply Upd.there)); (with_reducible exact SS.len _ _); (focus (first | (with_reducible exact SS.len _ _) | kernel_rfl)); with_reducible exact SS.ones _ _ _ _)
    | ((with_reducible apply J.allocW); exact rfl; exact rfl; intro _)
    | ((with_reducible apply J.givesP (Ref.sub_r _ _)); exact rfl; exact rfl; exact ⟨hn _, hx⟩)
    | ((with_reducible apply J.givesP (Ref.add_r _ _)); exact rfl; exact rfl; exact ⟨hn _, hx⟩)
    | refine J.one ?_
    | refine J.loudS ?_
    | (refine J.loudQ ?_; intro _ _)
    | (refine J.loudB ?_; intro _)
    | (with_reducible apply J.list)
    | ((with_reducible apply J.draw (id := 1) [0, 0, 3, 7, 0, 31, 63, 127, 127, 0, 767, 2047] (.p 0 (.p 1 (.p 2 (.q 3 (.q 4 (.x 5 (.p 6 (.p 7 (.p 8 (.x 9 (.x 10 (.p 11 .nil) .none) .none)))) (.x 9 (.x 5 (.p 6 (.p 7 (.p 8 (.x 10 (.p 11 .nil) .none)))) .none) .none))))))) (by kernel_rfl) ?_ (by kernel_rfl) ?_); (repeat (with_reducible first | exact PanicFree.body | exact PanicFree.np | exact PanicFree.lvS | apply PanicFree.then_ | apply PanicFree.blk)))
    | ((with_reducible apply J.draw (id := 3) [0, 0, 3, 7, 0, 31, 63, 127, 127, 255, 1023] (.p 0 (.p 1 (.p 2 (.q 3 (.q 4 (.x 5 (.p 6 (.p 7 (.p 8 (.x 9 (.p 10 .nil) .none)))) .none)))))) (by kernel_rfl) ?_ (by kernel_rfl) ?_); (repeat (with_reducible first | exact PanicFree.body | exact PanicFree.np | exact PanicFree.lvS | apply PanicFree.then_ | apply PanicFree.blk)))
    | ((with_reducible apply J.pl2); exact rfl; (first | exact Gd.none | ((with_reducible apply Gd.on); exact rfl; exact rfl)); (first | exact pend_au | fail))
    | ((with_reducible apply J.pl2_off); exact rfl; ((with_reducible apply Gd.off); exact rfl; exact rfl; exact rfl); exact rfl; (first | exact pend_au | fail))
    | ((with_reducible apply J.pl2_off_none); exact rfl; ((with_reducible apply Gd.off); exact rfl; exact rfl; exact rfl); (first | exact pend_au | fail))
    | ((with_reducible first | apply J.psplit0 | apply J.psplit1 | apply J.psplit2); exact rfl; exact rfl; exact rfl)
    | (with_reducible exact J.pl_none)
    | ((with_reducible apply J.gsplit); exact rfl; exact rfl)
    | ((with_reducible first | apply J.cond | apply JC.cond); exact rfl)
    | (intro h; exfalso; (simp at h; done))
    | (intro h; (try simp only [decide_eq_true_eq, decide_eq_false_iff_not, beq_iff_eq, beq_eq_false_iff_ne, Bool.not_eq_true', Bool.not_eq_false', bne_iff_ne, bne_eq_false_iff_eq, ne_eq, ge_iff_le, gt_iff_lt] at h))
    | (with_reducible apply J.gave')
    | ((with_reducible apply J.kept'); rotate_left; (first | exact outs_au | fail))
  all_goals
    first
    | (simp only [retv]; rw [hdF_dy (by assumption), wsub_y (by assumption), decide_eq_true (by assumption)]; done)
    | (simp only [retv]; rw [hdF_dn (by assumption), decide_eq_false (by assumption)]; done)
    | (trace_state; fail)
end Go.Proofs.YtljbedladifgmaaGreat.R12
