/-
  The reference: fields, and what is summed up of transfers. No conditions.
-/
import Derived.Test.YtljbedladifgmaaGreatQRovr
import Derived.Test.YtljbedladifgmaaGreatQRef
import Derived.Test.YtljbedladifgmaaGreatQDeal
namespace Go.Proofs.YtljbedladifgmaaGreat.R6
open Go Go.RowKit Eng
set_option linter.unusedVariables false
set_option maxRecDepth 100000
set_option linter.unusedSimpArgs false
open Sha Iter Hash Bytes Hsum Wide Tx Field Deal Rsum Rovr Ref
set_option maxHeartbeats 2000000
def dg (m i : Nat) : Nat := m / 65536 ^ i % 65536
theorem dg_at {m i off : Nat} (he : off = i) (h : i < 16) : (dgv (m : Int) 16)[off]? = some (.int .i64 ((dg m i : Nat) : Int)) := by
  subst he
  rw [dgv_get _ h, sh_eq]
  congr 2
theorem dg_lt (m i : Nat) : dg m i < 65536 := Nat.mod_lt _ (by decide)
theorem dg_q {m i : Nat} : IntKind.i64.wrap (((dg m i : Nat) : Int).tdiv 256) = ((dg m i / 256 : Nat) : Int) := by
  have h := dg_lt m i
  rw [Int.tdiv_eq_ediv_of_nonneg (Int.natCast_nonneg _)]
  exact wr64 (by omega) (by omega) (by omega)
theorem dg_r {m i : Nat} : ((dg m i : Nat) : Int).tmod 256 = ((dg m i % 256 : Nat) : Int) := by
  rw [Int.tmod_eq_emod_of_nonneg (Int.natCast_nonneg _)]
  omega
theorem wo_step {m k : Nat} (hk : k < 16) : bcs (num (m / 65536 ^ (k + 1)) (2 * (16 - (k + 1)))) ++ [Value.int .u8 ((dg m k / 256 % 256 : Nat) : Int), .int .u8 ((dg m k % 256 % 256 : Nat) : Int)] = bcs (num (m / 65536 ^ k) (2 * (16 - k))) := by
  have e1 : 2 * (16 - k) = 2 * (16 - (k + 1)) + 1 + 1 := by omega
  rw [e1, num, num, bcs_append, bcs_append, Nat.div_div_eq_div_mul, List.append_assoc, Nat.pow_succ, ← Nat.div_div_eq_div_mul m (65536 ^ k) 65536]
  unfold dg
  generalize m / 65536 ^ k = q
  have e2 : q % 65536 / 256 % 256 = q / 256 % 256 := by omega
  have e3 : q % 65536 % 256 % 256 = q % 256 := by omega
  rw [e2, e3, ← u8_cell, ← u8_cell]
  rfl
theorem rwide_n (m : Nat) (w : World) (hw : Wd (m : Int)) : CSpec Tryz.prog 159 [.agg (wv (m : Int)).toArray] [] w (Fresh 5 1 32 (bcs (num m 32)) []) := by
  refine spec_own0 Tryz.func159 rfl Tryz.ntmps159 rfl (l0 := [(0, .agg (wv (m : Int)).toArray)]) rfl ?_
  repeat' first
    | (refine J.qr ?_; (with_reducible apply exq); focus (first
      | ((with_reducible apply Qr.loadFull); exact rfl; (focus ((first | exact in_au | fail); done)); (with_reducible exact wv_length _))))
    | (refine J.qo ?_; refine ⟨?_, ?_⟩; focus (first
      | ((with_reducible apply Qr.loadFull); exact rfl; (focus ((first | exact in_au | fail); done)); (with_reducible exact wv_length _))))
    | ((with_reducible apply J.freshAtP (digits _)); exact rfl; exact rfl; (first | exact outs_au | fail); exact hw; intro _ _)
    | refine J.one ?_
    | refine J.loudS ?_
    | (refine J.loudQ ?_; intro _ _)
    | (refine J.loudB ?_; intro _)
    | (with_reducible apply J.list)
    | ((with_reducible apply J.draw (id := 6) [0, 0, 0, 6, 14, 30, 62, 0, 0, 384, 896, 1920, 3968, 8190, 16383, 32767] (.p 0 (.p 1 (.p 2 (.p 3 (.q 4 (.p 5 (.p 6 (.p 7 (.p 8 (.p 9 (.q 10 (.p 11 (.p 12 (.x 13 (.x 14 (.p 15 .nil) .none) .none)))))))))))))) (by kernel_rfl) ?_ (by kernel_rfl) ?_); (repeat (with_reducible first | exact PanicFree.body | exact PanicFree.np | exact PanicFree.lvS | apply PanicFree.then_ | apply PanicFree.blk)))
    | ((with_reducible apply J.pl2); exact rfl; (first | exact Gd.none | ((with_reducible apply Gd.on); exact rfl; exact rfl)); (first | exact pend_au | fail))
    | ((with_reducible apply J.pl2_off); exact rfl; ((with_reducible apply Gd.off); exact rfl; exact rfl; exact rfl); exact rfl; (first | exact pend_au | fail))
    | ((with_reducible apply J.pl2_off_none); exact rfl; ((with_reducible apply Gd.off); exact rfl; exact rfl; exact rfl); (first | exact pend_au | fail))
    | ((with_reducible first | apply J.psplit0 | apply J.psplit1 | apply J.psplit2); exact rfl; exact rfl; exact rfl)
    | (with_reducible exact J.pl_none)
    | ((with_reducible apply J.gsplit); exact rfl; exact rfl)
    | ((with_reducible first | apply J.cond | apply JC.cond); exact rfl)
    | (intro h; exfalso; fail)
    | (intro h; (try simp only [decide_eq_true_eq, decide_eq_false_iff_not, beq_iff_eq, beq_eq_false_iff_ne, Bool.not_eq_true', Bool.not_eq_false', bne_iff_ne, bne_eq_false_iff_eq, ne_eq, ge_iff_le, gt_iff_lt] at h))
    | (with_reducible apply J.gave')
    | ((with_reducible apply J.kept'); rotate_left; (first | exact outs_au | fail))
  rename_i b gx cx
  refine J.nilRow 5 1 ?_
  apply J.reR (v' := .slice none (2 * (16 - 16)) 0) (n' := 2 * (16 - 16)) (C' := bcs (num (m / 65536 ^ 16) (2 * (16 - 16))))
  · (repeat (first | with_reducible exact Upd.here | with_reducible apply Upd.there))
  · rfl
  · rfl
  · rfl
  apply J.loopI (σ := Nat × (Option Addr × Nat)) (I := fun s => s.1 ≤ 16) (L := fun s => [(3, .slice (some ⟨gx, 0, none⟩) 16 cx), (4, .slice s.2.1 (2 * (16 - s.1)) s.2.2), (5, .int .i64 ((s.1 : Int) - 1))]) (HH := fun s => [row (.slice s.2.1 (2 * (16 - s.1)) s.2.2) 5 1 (2 * (16 - s.1)) (bcs (num (m / 65536 ^ s.1) (2 * (16 - s.1)))), Eng.rowAt gx cx 3 1 16 (dgv (m : Int) 16)]) (m := fun s => s.1) (s0 := (16, (none, 0)))
  · ((try dsimp only); (exact Nat.le_refl _))
  · ((try dsimp only); repeat (first | exact sub.nil _ | (refine sub.consE rfl ?_ ?_; (first | with_reducible rfl | ((focus (congr 1; omega))) | rfl))))
  · ((try dsimp only); (first | exact outs_au | fail))
  rintro ⟨k, q⟩ hk
  try dsimp only at hk ⊢
  rcases k with _ | k
  · skip
    repeat' first
      | (refine J.qv ?_; (with_reducible apply exq); focus (first
        | ((with_reducible apply Qv.quo); exact rfl; exact rfl; decide; exact dg_q)
        | ((with_reducible apply Qv.rem); exact rfl; exact rfl; decide; exact dg_r)
        | ((with_reducible apply Qv.conv); exact rfl; exact wr8)
        | ((with_reducible apply Qv.sub); exact rfl; exact rfl; exact wr64 (z := (k : Int) - 1) (by omega) (by omega) (by omega))
        | ((with_reducible apply Qv.indexBlk (b := gx)); exact rfl; exact rfl; (constructor <;> omega); exact rfl)))
      | (refine J.qr ?_; (with_reducible apply exq); focus (first
        | ((with_reducible apply Qr.row1); exact rfl; (first | exact in_au | fail); exact dg_at (i := k) (by omega) (by omega))))
      | (refine J.qo ?_; refine ⟨?_, ?_⟩; focus (first
        | ((with_reducible apply Qr.row1); exact rfl; (first | exact in_au | fail); exact dg_at (i := k) (by omega) (by omega))))
      | refine J.one ?_
      | refine J.loudS ?_
      | (refine J.loudQ ?_; intro _ _)
      | (refine J.loudB ?_; intro _)
      | (with_reducible apply J.list)
      | ((with_reducible apply J.draw (id := 6) [0, 0, 0, 6, 14, 30, 62, 0, 0, 384, 896, 1920, 3968, 8190, 16383, 32767] (.p 0 (.p 1 (.p 2 (.p 3 (.q 4 (.p 5 (.p 6 (.p 7 (.p 8 (.p 9 (.q 10 (.p 11 (.p 12 (.x 13 (.x 14 (.p 15 .nil) .none) .none)))))))))))))) (by kernel_rfl) ?_ (by kernel_rfl) ?_); (repeat (with_reducible first | exact PanicFree.body | exact PanicFree.np | exact PanicFree.lvS | apply PanicFree.then_ | apply PanicFree.blk)))
      | ((with_reducible apply J.pl2); exact rfl; (first | exact Gd.none | ((with_reducible apply Gd.on); exact rfl; exact rfl)); (first | exact pend_au | fail))
      | ((with_reducible apply J.pl2_off); exact rfl; ((with_reducible apply Gd.off); exact rfl; exact rfl; exact rfl); exact rfl; (first | exact pend_au | fail))
      | ((with_reducible apply J.pl2_off_none); exact rfl; ((with_reducible apply Gd.off); exact rfl; exact rfl; exact rfl); (first | exact pend_au | fail))
      | ((with_reducible first | apply J.psplit0 | apply J.psplit1 | apply J.psplit2); exact rfl; exact rfl; exact rfl)
      | (with_reducible exact J.pl_none)
      | ((with_reducible apply J.gsplit); exact rfl; exact rfl)
      | ((with_reducible first | apply J.cond | apply JC.cond); exact rfl)
      | (intro h; exfalso; (first | (simp at h; done) | (simp at h; omega) | omega))
      | (intro h; (try simp only [decide_eq_true_eq, decide_eq_false_iff_not, beq_iff_eq, beq_eq_false_iff_ne, Bool.not_eq_true', Bool.not_eq_false', bne_iff_ne, bne_eq_false_iff_eq, ne_eq, ge_iff_le, gt_iff_lt] at h))
      | (with_reducible apply J.gave')
      | ((with_reducible apply J.kept'); rotate_left; (first | exact outs_au | fail))
    all_goals
      first
      | ((with_reducible apply J.freshRow); (repeat (first | with_reducible exact Out.here | with_reducible apply Out.there)); exact rfl; exact rfl; (rw [Nat.pow_zero, Nat.div_one]))
      | (trace_state; fail)
  · skip
    repeat' first
      | (refine J.qv ?_; (with_reducible apply exq); focus (first
        | ((with_reducible apply Qv.quo); exact rfl; exact rfl; decide; exact dg_q)
        | ((with_reducible apply Qv.rem); exact rfl; exact rfl; decide; exact dg_r)
        | ((with_reducible apply Qv.conv); exact rfl; exact wr8)
        | ((with_reducible apply Qv.sub); exact rfl; exact rfl; exact wr64 (z := (k : Int) - 1) (by omega) (by omega) (by omega))
        | ((with_reducible apply Qv.indexBlk (b := gx)); exact rfl; exact rfl; (constructor <;> omega); exact rfl)))
      | (refine J.qr ?_; (with_reducible apply exq); focus (first
        | ((with_reducible apply Qr.row1); exact rfl; (first | exact in_au | fail); exact dg_at (i := k) (by omega) (by omega))))
      | (refine J.qo ?_; refine ⟨?_, ?_⟩; focus (first
        | ((with_reducible apply Qr.row1); exact rfl; (first | exact in_au | fail); exact dg_at (i := k) (by omega) (by omega))))
      | refine J.one ?_
      | refine J.loudS ?_
      | (refine J.loudQ ?_; intro _ _)
      | (refine J.loudB ?_; intro _)
      | (with_reducible apply J.list)
      | ((with_reducible apply J.draw (id := 6) [0, 0, 0, 6, 14, 30, 62, 0, 0, 384, 896, 1920, 3968, 8190, 16383, 32767] (.p 0 (.p 1 (.p 2 (.p 3 (.q 4 (.p 5 (.p 6 (.p 7 (.p 8 (.p 9 (.q 10 (.p 11 (.p 12 (.x 13 (.x 14 (.p 15 .nil) .none) .none)))))))))))))) (by kernel_rfl) ?_ (by kernel_rfl) ?_); (repeat (with_reducible first | exact PanicFree.body | exact PanicFree.np | exact PanicFree.lvS | apply PanicFree.then_ | apply PanicFree.blk)))
      | ((with_reducible apply J.pl2); exact rfl; (first | exact Gd.none | ((with_reducible apply Gd.on); exact rfl; exact rfl)); (first | exact pend_au | fail))
      | ((with_reducible apply J.pl2_off); exact rfl; ((with_reducible apply Gd.off); exact rfl; exact rfl; exact rfl); exact rfl; (first | exact pend_au | fail))
      | ((with_reducible apply J.pl2_off_none); exact rfl; ((with_reducible apply Gd.off); exact rfl; exact rfl; exact rfl); (first | exact pend_au | fail))
      | ((with_reducible first | apply J.psplit0 | apply J.psplit1 | apply J.psplit2); exact rfl; exact rfl; exact rfl)
      | (with_reducible exact J.pl_none)
      | ((with_reducible apply J.gsplit); exact rfl; exact rfl)
      | ((with_reducible first | apply J.cond | apply JC.cond); exact rfl)
      | (intro h; exfalso; (first | (simp at h; done) | (simp at h; omega) | omega))
      | (intro h; (try simp only [decide_eq_true_eq, decide_eq_false_iff_not, beq_iff_eq, beq_eq_false_iff_ne, Bool.not_eq_true', Bool.not_eq_false', bne_iff_ne, bne_eq_false_iff_eq, ne_eq, ge_iff_le, gt_iff_lt] at h))
      | (with_reducible apply J.gave')
      | ((with_reducible apply J.kept'); rotate_left; (first | exact outs_au | fail))
    all_goals
      first
      | (rename_i q2 _
         apply J.reR (v' := .slice q2.1 (2 * (16 - k)) q2.2) (n' := 2 * (16 - k)) (C' := bcs (num (m / 65536 ^ k) (2 * (16 - k))))
         · (repeat (first | with_reducible exact Upd.here | with_reducible apply Upd.there))
         · exact reS (by omega)
         · omega
         · exact wo_step (by omega)
         (apply J.againI (s := (k + 1, q)) (s' := (k, q2)); (focus (((try dsimp only); omega))); (focus ((try dsimp only); (show k ≤ 16; omega))); (focus (((try dsimp only); repeat (first | exact sub.nil _ | (refine sub.consE rfl ?_ ?_; (first | with_reducible rfl | ((focus (first | exact reS (by omega) | (congr 1; omega)))) | rfl)))))); ((try dsimp only); (first | exact outs_au | fail))))
      | (trace_state; fail)
theorem rwide (x : Int) (w : World) (hw : Wd x) : CSpec Tryz.prog 159 [.agg (wv x).toArray] [] w (Fresh 5 1 32 (bcs (wb x)) []) := by
  obtain ⟨k, rfl, e⟩ := nat_of hw.1
  unfold wb
  rw [e]
  exact rwide_n k w hw
/-- Octets on their way. -/
def RetW (l : List UInt8) : Ending → List Asrt → Prop := fun e H => ∃ q : Option Addr × Nat, l.length ≤ q.2 ∧ e = .returned (.agg [.slice q.1 l.length q.2, .int .i64 0].toArray) ∧ H = [row (.slice q.1 l.length q.2) 5 1 l.length (bcs l)]
section
variable {c : Cx} {l : TL} {H : List Asrt} {Q : Exit → Act → World → Prop} {X : Act → World → Prop} {ty : TypeId} {pos : String} {af : Array Edge} {d : Nat}
theorem J.wR {P : Program} {f : Nat} [i : Eng.Enters P f] {xs : List Operand} {ts : Array TypeId} {vs : List Value} {m : List UInt8} {pre : World → Prop} (hS : ∀ w, pre w → CSpec P f vs [] w (RetW m)) (hd : Nat.blt d c.n = true) (hx : evs l xs = some vs) (hp : RH c.w0 c.own H pre)
    (K : ∀ q : Option Addr × Nat, m.length ≤ q.2 → J c ((d, .agg [.slice q.1 m.length q.2, .int .i64 0].toArray) :: l) (row (.slice q.1 m.length q.2) 5 1 m.length (bcs m) :: H) X) : J c l H (OW P Q ⟨some d, .call ⟨.value (.func f), xs.toArray, ts⟩, ty, pos, af, none⟩ X) :=
  J.callS hd hx .nil (fun w s => hS w (hp w s)) (fun v H3 ⟨q, hq, h1, h2⟩ => by
    cases h1; subst h2
    exact K q hq) (fun ch H3 ⟨q, _, h1, _⟩ => by cases h1) (fun H3 ⟨q, _, h1, _⟩ => by cases h1)
theorem J.endW {R : List Asrt} {m : List UInt8} {n cap : Nat} {ao : Option Addr} {C : List Value} {r : Value} (ho : Outs [row (.slice ao n cap) 5 1 n C] H R) (hn : n = m.length) (hC : C = bcs m) (hr : r = .agg [.slice ao n cap, .int .i64 0].toArray) : J c l H (fun _ w => ∃ H3, RetW m (.returned r) H3 ∧ Sat c.w0 c.own H3 w) := by
  subst hn hC hr
  refine J.mk fun a w st => ?_
  have hq : m.length ≤ cap := by
    have h1 := st.2.2.perm ho.perm
    exact (h1.rd_row .here).2.1
  exact (J.post (R := RetW m) ⟨(ao, cap), hq, rfl, rfl⟩ ho).out a w st
end
theorem rput (ao : Option Addr) (n cap : Nat) (a : List UInt8) (bo : Option Addr) (m cp : Nat) (b : List UInt8) (w : World) (hw : Rd w ao (bcs a) ∧ n = a.length ∧ Rd w bo (bcs b) ∧ m = b.length ∧ a.length + b.length ≤ 8192) : CSpec Tryz.prog 134 [.agg [.slice ao n cap, .int .i64 0].toArray, .slice bo m cp, .int .i64 0] [] w (RetW (a ++ b)) := by
  obtain ⟨hr, rfl, hs, rfl, hl⟩ := hw
  refine spec_own0 Tryz.func134 rfl Tryz.ntmps134 rfl (l0 := [(0, .agg [.slice ao a.length cap, .int .i64 0].toArray), (1, .slice bo b.length cp), (2, .int .i64 0)]) rfl ?_
  repeat' first
    | ((with_reducible apply J.freshR (rcat _ _ _ a _ _ _ b)); exact rfl; exact rfl; (focus (exact RH.and (RH.old hr) (RH.and (RH.of (by first | rfl | (simp [num_length]; done) | (simp [num_length]; omega))) (RH.and (RH.old hs) (RH.of ⟨(by first | rfl | (simp [num_length]; done) | (simp [num_length]; omega)), (by omega)⟩))))); intro _ _)
    | refine J.one ?_
    | refine J.loudS ?_
    | (refine J.loudQ ?_; intro _ _)
    | (refine J.loudB ?_; intro _)
    | (with_reducible apply J.list)
    | ((with_reducible apply J.gsplit); exact rfl; exact rfl)
    | ((with_reducible first | apply J.cond | apply JC.cond); exact rfl)
    | (intro h; exfalso; (first | (simp at h; done) | (simp at h; omega) | omega))
    | (intro h; (try simp only [decide_eq_true_eq, decide_eq_false_iff_not, beq_iff_eq, beq_eq_false_iff_ne, Bool.not_eq_true', Bool.not_eq_false', bne_iff_ne, bne_eq_false_iff_eq, ne_eq, ge_iff_le, gt_iff_lt] at h))
    | (with_reducible apply J.gave')
    | ((with_reducible apply J.kept'); rotate_left; (first | exact outs_au | fail))
  all_goals (((with_reducible apply J.endW); (first | exact outs_au | fail); (focus ((simp; done))); (focus (rfl)); exact rfl))
theorem rnumN (ao : Option Addr) (n cap : Nat) (a : List UInt8) (k : Nat) (w : World) (hw : Rd w ao (bcs a) ∧ n = a.length ∧ k ≤ 1099511627776 ∧ a.length + 6 ≤ 8192) : CSpec Tryz.prog 105 [.agg [.slice ao n cap, .int .i64 0].toArray, .int .i64 (k : Int)] [] w (RetW (a ++ num k 6)) := by
  obtain ⟨hr, rfl, hk, hl⟩ := hw
  refine spec_own0 Tryz.func105 rfl Tryz.ntmps105 rfl (l0 := [(0, .agg [.slice ao a.length cap, .int .i64 0].toArray), (1, .int .i64 (k : Int))]) rfl ?_
  repeat' first
    | ((with_reducible apply J.freshR (rnum k 6)); exact rfl; exact rfl; (focus ((refine RH.of ?_; omega))); intro _ _)
    | ((with_reducible apply J.wR (rput _ _ _ a _ _ _ (num k 6))); exact rfl; exact rfl; (focus (exact RH.and (RH.old hr) (RH.and (RH.of rfl) (RH.and (RH.row (by (first | exact in_au | fail))) (RH.of ⟨(by first | (simp only [num_length, wb_length, List.length_append]; done) | rfl), (by first | omega | (simp [num_length, wb_length]; omega))⟩))))); intro _ _)
    | refine J.one ?_
    | refine J.loudS ?_
    | (refine J.loudQ ?_; intro _ _)
    | (refine J.loudB ?_; intro _)
    | (with_reducible apply J.list)
    | ((with_reducible apply J.draw (id := 3) [0, 0, 2, 7, 15] (.q 0 (.p 1 (.x 2 (.x 3 (.x 4 .nil .none) .none) .none))) (by kernel_rfl) ?_ (by kernel_rfl) ?_); (repeat (with_reducible first | exact PanicFree.body | exact PanicFree.np | exact PanicFree.lvS | apply PanicFree.then_ | apply PanicFree.blk)))
    | ((with_reducible apply J.pl2); exact rfl; (first | exact Gd.none | ((with_reducible apply Gd.on); exact rfl; exact rfl)); (first | exact pend_au | fail))
    | ((with_reducible apply J.pl2_off); exact rfl; ((with_reducible apply Gd.off); exact rfl; exact rfl; exact rfl); exact rfl; (first | exact pend_au | fail))
    | ((with_reducible apply J.pl2_off_none); exact rfl; ((with_reducible apply Gd.off); exact rfl; exact rfl; exact rfl); (first | exact pend_au | fail))
    | ((with_reducible first | apply J.psplit0 | apply J.psplit1 | apply J.psplit2); exact rfl; exact rfl; exact rfl)
    | (with_reducible exact J.pl_none)
    | ((with_reducible apply J.gsplit); exact rfl; exact rfl)
    | ((with_reducible first | apply J.cond | apply JC.cond); exact rfl)
    | (intro h; exfalso; (first | (simp at h; done) | (simp at h; omega) | omega))
    | (intro h; (try simp only [decide_eq_true_eq, decide_eq_false_iff_not, beq_iff_eq, beq_eq_false_iff_ne, Bool.not_eq_true', Bool.not_eq_false', bne_iff_ne, bne_eq_false_iff_eq, ne_eq, ge_iff_le, gt_iff_lt] at h))
    | (with_reducible apply J.gave')
    | ((with_reducible apply J.kept'); rotate_left; (first | exact outs_au | fail))
  all_goals (((with_reducible apply J.endW); (first | exact outs_au | fail); (focus ((first | rfl | (simp; done) | (simp; omega)))); (focus ((first | rfl | (simp only [List.append_assoc]; done)))); exact rfl))
theorem rnum6 (ao : Option Addr) (n cap : Nat) (a : List UInt8) (x : Int) (w : World) (hw : Rd w ao (bcs a) ∧ n = a.length ∧ 0 ≤ x ∧ x ≤ 1099511627776 ∧ a.length + 6 ≤ 8192) : CSpec Tryz.prog 105 [.agg [.slice ao n cap, .int .i64 0].toArray, .int .i64 x] [] w (RetW (a ++ num x.toNat 6)) := by
  obtain ⟨h1, h2, h3, h4, h5⟩ := hw
  obtain ⟨k, rfl, e⟩ := nat_of h3
  rw [e]
  exact rnumN ao n cap a k w ⟨h1, h2, by omega, h5⟩
theorem rtext (ao : Option Addr) (n cap : Nat) (a : List UInt8) (s : List UInt8) (w : World) (hw : Rd w ao (bcs a) ∧ n = a.length ∧ s.length ≤ 1024 ∧ a.length + s.length ≤ 8190) : CSpec Tryz.prog 104 [.agg [.slice ao n cap, .int .i64 0].toArray, str s] [] w (RetW (a ++ tx s)) := by
  obtain ⟨hr, rfl, hk, hl⟩ := hw
  refine spec_own0 Tryz.func104 rfl Tryz.ntmps104 rfl (l0 := [(0, .agg [.slice ao a.length cap, .int .i64 0].toArray), (1, str s)]) rfl ?_
  repeat' first
    | (refine J.qv ?_; (with_reducible apply exq); focus (first
      | ((with_reducible apply Qv.lenS8); exact rfl)))
    | ((with_reducible apply J.freshR (rnum s.length 2)); exact rfl; exact rfl; (focus ((refine RH.of ?_; omega))); intro _ _)
    | ((with_reducible apply J.freshR (rcat _ _ _ (num s.length 2) _ _ _ s)); exact rfl; exact rfl; (focus (exact RH.and (RH.row (by (first | exact in_au | fail))) (RH.and (RH.of (by first | rfl | (simp [num_length]; done) | (simp [num_length]; omega))) (RH.and (RH.bat (by (first | exact in_au | fail))) (RH.of ⟨(by first | rfl | (simp [num_length]; done) | (simp [num_length]; omega)), (by simp [num_length]; omega)⟩))))); intro _ _)
    | ((with_reducible apply J.wR (rput _ _ _ a _ _ _ (num s.length 2 ++ s))); exact rfl; exact rfl; (focus (exact RH.and (RH.old hr) (RH.and (RH.of rfl) (RH.and (RH.row (by (first | exact in_au | fail))) (RH.of ⟨(by first | (simp only [num_length, wb_length, List.length_append]; done) | rfl), (by first | omega | (simp [num_length, wb_length]; omega))⟩))))); intro _ _)
    | refine J.one ?_
    | refine J.loudS ?_
    | (refine J.loudQ ?_; intro _ _)
    | (refine J.loudB ?_; intro _)
    | (with_reducible apply J.list)
    | ((with_reducible apply J.draw (id := 3) [0, 0, 2, 6, 0, 16, 62, 127, 255] (.q 0 (.p 1 (.p 2 (.p 4 (.x 3 (.x 5 (.x 6 (.x 7 (.x 8 .nil .none) .none) .none) .none) (.x 5 (.x 3 (.x 6 (.x 7 (.x 8 .nil .none) .none) .none) .none) .none)))))) (by kernel_rfl) ?_ (by kernel_rfl) ?_); (repeat (with_reducible first | exact PanicFree.body | exact PanicFree.np | exact PanicFree.lvS | apply PanicFree.then_ | apply PanicFree.blk)))
    | ((with_reducible apply J.pl2); exact rfl; (first | exact Gd.none | ((with_reducible apply Gd.on); exact rfl; exact rfl)); (first | exact pend_au | fail))
    | ((with_reducible apply J.pl2_off); exact rfl; ((with_reducible apply Gd.off); exact rfl; exact rfl; exact rfl); exact rfl; (first | exact pend_au | fail))
    | ((with_reducible apply J.pl2_off_none); exact rfl; ((with_reducible apply Gd.off); exact rfl; exact rfl; exact rfl); (first | exact pend_au | fail))
    | ((with_reducible first | apply J.psplit0 | apply J.psplit1 | apply J.psplit2); exact rfl; exact rfl; exact rfl)
    | (with_reducible exact J.pl_none)
    | ((with_reducible apply J.gsplit); exact rfl; exact rfl)
    | ((with_reducible first | apply J.cond | apply JC.cond); exact rfl)
    | (intro h; exfalso; (first | (simp at h; done) | (simp at h; omega) | omega))
    | (intro h; (try simp only [decide_eq_true_eq, decide_eq_false_iff_not, beq_iff_eq, beq_eq_false_iff_ne, Bool.not_eq_true', Bool.not_eq_false', bne_iff_ne, bne_eq_false_iff_eq, ne_eq, ge_iff_le, gt_iff_lt] at h))
    | (with_reducible apply J.gave')
    | ((with_reducible apply J.kept'); rotate_left; (first | exact outs_au | fail))
  all_goals (((with_reducible apply J.endW); (first | exact outs_au | fail); (focus ((first | rfl | (simp; done) | (simp; omega)))); (focus ((first | rfl | (simp only [List.append_assoc]; done)))); exact rfl))
theorem rwid (ao : Option Addr) (n cap : Nat) (a : List UInt8) (x : Int) (w : World) (hw : Rd w ao (bcs a) ∧ n = a.length ∧ Wd x ∧ a.length ≤ 8160) : CSpec Tryz.prog 145 [.agg [.slice ao n cap, .int .i64 0].toArray, .agg (wv x).toArray] [] w (RetW (a ++ wb x)) := by
  obtain ⟨hr, rfl, hx, hl⟩ := hw
  refine spec_own0 Tryz.func145 rfl Tryz.ntmps145 rfl (l0 := [(0, .agg [.slice ao a.length cap, .int .i64 0].toArray), (1, .agg (wv x).toArray)]) rfl ?_
  repeat' first
    | (refine J.qr ?_; (with_reducible apply exq); focus (first
      | ((with_reducible apply Qr.loadFull); exact rfl; (focus ((first | exact in_au | fail); done)); (with_reducible exact wv_length _))))
    | (refine J.qo ?_; refine ⟨?_, ?_⟩; focus (first
      | ((with_reducible apply Qr.loadFull); exact rfl; (focus ((first | exact in_au | fail); done)); (with_reducible exact wv_length _))))
    | ((with_reducible apply J.freshR (rwide x)); exact rfl; exact rfl; (focus (exact RH.of hx)); intro _ _)
    | ((with_reducible apply J.wR (rput _ _ _ a _ _ _ (wb x))); exact rfl; exact rfl; (focus (exact RH.and (RH.old hr) (RH.and (RH.of rfl) (RH.and (RH.row (by (first | exact in_au | fail))) (RH.of ⟨(by first | (simp only [num_length, wb_length, List.length_append]; done) | rfl), (by first | omega | (simp [num_length, wb_length]; omega))⟩))))); intro _ _)
    | refine J.one ?_
    | refine J.loudS ?_
    | (refine J.loudQ ?_; intro _ _)
    | (refine J.loudB ?_; intro _)
    | (with_reducible apply J.list)
    | ((with_reducible apply J.draw (id := 1) [0, 0, 2, 7, 15] (.q 0 (.q 1 (.x 2 (.x 3 (.x 4 .nil .none) .none) .none))) (by kernel_rfl) ?_ (by kernel_rfl) ?_); (repeat (with_reducible first | exact PanicFree.body | exact PanicFree.np | exact PanicFree.lvS | apply PanicFree.then_ | apply PanicFree.blk)))
    | ((with_reducible apply J.pl2); exact rfl; (first | exact Gd.none | ((with_reducible apply Gd.on); exact rfl; exact rfl)); (first | exact pend_au | fail))
    | ((with_reducible apply J.pl2_off); exact rfl; ((with_reducible apply Gd.off); exact rfl; exact rfl; exact rfl); exact rfl; (first | exact pend_au | fail))
    | ((with_reducible apply J.pl2_off_none); exact rfl; ((with_reducible apply Gd.off); exact rfl; exact rfl; exact rfl); (first | exact pend_au | fail))
    | ((with_reducible first | apply J.psplit0 | apply J.psplit1 | apply J.psplit2); exact rfl; exact rfl; exact rfl)
    | (with_reducible exact J.pl_none)
    | ((with_reducible apply J.gsplit); exact rfl; exact rfl)
    | ((with_reducible first | apply J.cond | apply JC.cond); exact rfl)
    | (intro h; exfalso; (first | (simp at h; done) | (simp at h; omega) | omega))
    | (intro h; (try simp only [decide_eq_true_eq, decide_eq_false_iff_not, beq_iff_eq, beq_eq_false_iff_ne, Bool.not_eq_true', Bool.not_eq_false', bne_iff_ne, bne_eq_false_iff_eq, ne_eq, ge_iff_le, gt_iff_lt] at h))
    | (with_reducible apply J.gave')
    | ((with_reducible apply J.kept'); rotate_left; (first | exact outs_au | fail))
  all_goals (((with_reducible apply J.endW); (first | exact outs_au | fail); (focus ((first | rfl | (simp; done) | (simp; omega)))); (focus ((first | rfl | (simp only [List.append_assoc]; done)))); exact rfl))
theorem inB_iff {n a b : Int} : inB n a b = true ↔ a ≤ n ∧ n ≤ b := by unfold inB; simp
theorem invE_yes {us ro se re to : Int} {rt id : List UInt8} (h : 0 ≤ us ∧ us ≤ 1 ∧ 2 ≤ ro ∧ ro ≤ 3 ∧ 0 ≤ se ∧ se ≤ 1 ∧ 0 ≤ re ∧ re ≤ 1 ∧ 0 ≤ to ∧ to ≤ 7 ∧ rt.length = 8 ∧ 1 ≤ id.length ∧ id.length ≤ 16) : Value.int .i64 0 = .int .i64 (invE us rt ro se re to id) := by
  unfold invE
  simp only [inB_iff]
  rw [if_pos (by omega)]
theorem invE_no {us ro se re to : Int} {rt id : List UInt8} (h : ¬(0 ≤ us ∧ us ≤ 1 ∧ 2 ≤ ro ∧ ro ≤ 3 ∧ 0 ≤ se ∧ se ≤ 1 ∧ 0 ≤ re ∧ re ≤ 1 ∧ 0 ≤ to ∧ to ≤ 7 ∧ rt.length = 8 ∧ 1 ≤ id.length ∧ id.length ≤ 16)) : Value.int .i64 39 = .int .i64 (invE us rt ro se re to id) := by
  unfold invE
  simp only [inB_iff]
  rw [if_neg (by omega)]
theorem sndE_yes {va ex : Int} (h : va ≠ 0 ∧ 0 ≤ ex ∧ ex ≤ 1099511627776) : Value.int .i64 0 = .int .i64 (sndE va ex) := by
  unfold sndE
  simp only [inB_iff]
  rw [if_pos h]
theorem sndE_no {va ex : Int} (h : ¬(va ≠ 0 ∧ 0 ≤ ex ∧ ex ≤ 1099511627776)) : Value.int .i64 36 = .int .i64 (sndE va ex) := by
  unfold sndE
  simp only [inB_iff]
  rw [if_neg h]
theorem rinv (us : Int) (rt : List UInt8) (ro se re to : Int) (id : List UInt8) (w : World) (hw : True) : CSpec Tryz.prog 64 [.agg (invc us rt ro se re to id).toArray] [] w (Gives (.int .i64 (invE us rt ro se re to id))) := by
  refine spec_own0 Tryz.func64 rfl Tryz.ntmps64 rfl (l0 := [(0, .agg (invc us rt ro se re to id).toArray)]) rfl ?_
  repeat' first
    | (refine J.qv ?_; (with_reducible apply exq); focus (first
      | ((with_reducible apply Qv.lenS8); exact rfl)))
    | refine J.one ?_
    | refine J.loudS ?_
    | (refine J.loudQ ?_; intro _ _)
    | (refine J.loudB ?_; intro _)
    | (with_reducible apply J.list)
    | ((with_reducible apply J.gsplit); exact rfl; exact rfl)
    | ((with_reducible first | apply J.cond | apply JC.cond); exact rfl)
    | (intro h; exfalso; (first | (simp at h; done) | omega))
    | (intro h; (try simp only [decide_eq_true_eq, decide_eq_false_iff_not, beq_iff_eq, beq_eq_false_iff_ne, Bool.not_eq_true', Bool.not_eq_false', bne_iff_ne, bne_eq_false_iff_eq, ne_eq, ge_iff_le, gt_iff_lt] at h))
    | (with_reducible apply J.gave')
    | ((with_reducible apply J.kept'); rotate_left; (first | exact outs_au | fail))
  all_goals ((first | exact invE_no (by omega) | exact invE_yes (by omega) | (trace_state; fail)))
theorem rvar (va ex : Int) (w : World) (hw : Wd va) : CSpec Tryz.prog 85 [.agg (varc va ex).toArray] [] w (Gives (.int .i64 (sndE va ex))) := by
  refine spec_own0 Tryz.func85 rfl Tryz.ntmps85 rfl (l0 := [(0, .agg (varc va ex).toArray)]) rfl ?_
  repeat' first
    | (refine J.qv ?_; (with_reducible apply exq); focus (first
      | ((with_reducible apply Qv.buildW); exact rfl; exact rfl; (first | with_reducible assumption | (unfold Wo; omega) | (simp only [Wd, Wo] at *; omega)))
      | ((with_reducible apply Qv.buildW0); exact rfl; exact rfl)
      | ((with_reducible apply Qv.eqlA); exact rfl; exact rfl; (kernel_rfl); (refine weq _ _ (And.intro ?_ ?_) <;> (first | with_reducible assumption | exact ht.am | exact ht.va | (unfold Wd; omega))))))
    | (refine J.qr ?_; (with_reducible apply exq); focus (first
      | ((with_reducible apply Qr.loadFull); exact rfl; (focus ((first | exact in_au | fail); done)); (with_reducible exact wv_length _))))
    | refine J.one ?_
    | refine J.loudS ?_
    | (refine J.loudQ ?_; intro _ _)
    | (refine J.loudB ?_; intro _)
    | (with_reducible apply J.list)
    | ((with_reducible apply J.gsplit); exact rfl; exact rfl)
    | ((with_reducible first | apply J.cond | apply JC.cond); exact rfl)
    | (intro h; exfalso; (first | (simp at h; done) | omega))
    | (intro h; (try simp only [decide_eq_true_eq, decide_eq_false_iff_not, beq_iff_eq, beq_eq_false_iff_ne, Bool.not_eq_true', Bool.not_eq_false', bne_iff_ne, bne_eq_false_iff_eq, ne_eq, ge_iff_le, gt_iff_lt] at h))
    | (with_reducible apply J.gave')
    | ((with_reducible apply J.kept'); rotate_left; (first | exact outs_au | fail))
  all_goals ((first | exact sndE_no (by omega) | exact sndE_yes (by omega) | (trace_state; fail)))
end Go.Proofs.YtljbedladifgmaaGreat.R6
