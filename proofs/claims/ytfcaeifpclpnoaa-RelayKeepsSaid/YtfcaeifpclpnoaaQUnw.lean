/-
  Fields that are read: wide numbers. No conditions.
-/
import Derived.Test.YtfcaeifpclpnoaaQFld2
namespace Go.Proofs.Ytfcaeifpclpnoaa.Unw
open Go Go.RowKit Eng
set_option linter.unusedVariables false
set_option maxRecDepth 100000
set_option linter.unusedSimpArgs false
open Sha Iter Hash Bytes Hsum Wide Tx Field Deal Msg Fld Fld2
set_option maxHeartbeats 1000000
theorem be_from : ∀ (b : List UInt8) (n : Nat), b.foldl (fun n x => n * 256 + x.toNat) n = n * 256 ^ b.length + be b
  | [], n => by simp [be]
  | x :: b, n => by
    have e : be (x :: b) = b.foldl (fun n x => n * 256 + x.toNat) (0 * 256 + x.toNat) := rfl
    rw [e, be_from b (0 * 256 + x.toNat), List.foldl_cons, be_from b, List.length_cons, Nat.pow_succ]
    grind
theorem be_app (a b : List UInt8) : be (a ++ b) = be a * 256 ^ b.length + be b := by
  have e : be (a ++ b) = b.foldl (fun n x => n * 256 + x.toNat) (be a) := by
    unfold be
    rw [List.foldl_append]
  rw [e, be_from]
/-- A word, as far as it was read. -/
def wsg (l : List UInt8) (i t : Nat) : Nat := be (((l.take i).drop (8 * (3 - t))).take 8)
theorem take_oc {l : List UInt8} {i : Nat} (h : i < l.length) : l.take (i + 1) = l.take i ++ [oc l i] := by
  rw [List.take_add_one, oc_get h]
  rfl
theorem wsg_here {l : List UInt8} {i : Nat} (h : i < l.length) (hi : i < 32) : wsg l (i + 1) (3 - i / 8) = wsg l i (3 - i / 8) * 256 + (oc l i).toNat := by
  unfold wsg
  have e : 8 * (3 - (3 - i / 8)) = 8 * (i / 8) := by omega
  rw [e, take_oc h, List.drop_append_of_le_length (by rw [List.length_take]; omega)]
  have hl : ((l.take i).drop (8 * (i / 8))).length = i % 8 := by rw [List.length_drop, List.length_take]; omega
  obtain ⟨B, hB⟩ : ∃ B, (l.take i).drop (8 * (i / 8)) = B := ⟨_, rfl⟩
  rw [hB] at hl ⊢
  have h1 : (B ++ [oc l i]).take 8 = B ++ [oc l i] := List.take_of_length_le (by rw [List.length_append, hl, List.length_singleton]; omega)
  have h2 : B.take 8 = B := List.take_of_length_le (by omega)
  rw [h1, h2, be_snoc]
theorem wsg_else {l : List UInt8} {i t : Nat} (h : i < l.length) (ht : t ≤ 3) (hn : t ≠ 3 - i / 8) : wsg l (i + 1) t = wsg l i t := by
  unfold wsg
  rw [take_oc h]
  by_cases h1 : 8 * (3 - t) ≤ i
  · rw [List.drop_append_of_le_length (by rw [List.length_take]; omega), List.take_append_of_le_length (by rw [List.length_drop, List.length_take]; omega)]
  · rw [List.drop_eq_nil_of_le (by rw [List.length_append, List.length_take, List.length_singleton]; omega), List.drop_eq_nil_of_le (by rw [List.length_take]; omega)]
theorem wsg_lt (l : List UInt8) (i : Nat) (hi : i < 32) : wsg l i (3 - i / 8) < 72057594037927936 := by
  unfold wsg
  have h := be_lt (((l.take i).drop (8 * (3 - (3 - i / 8)))).take 8)
  have hl : (((l.take i).drop (8 * (3 - (3 - i / 8)))).take 8).length ≤ 7 := by rw [List.length_take, List.length_drop, List.length_take]; omega
  exact Nat.lt_of_lt_of_le h (Nat.le_trans (Nat.pow_le_pow_right (by decide) hl) (by decide))
theorem wsg_wo (l : List UInt8) (i t : Nat) : Wo ((wsg l i t : Nat) : Int) := by
  have h := be_lt (((l.take i).drop (8 * (3 - t))).take 8)
  have hl : (((l.take i).drop (8 * (3 - t))).take 8).length ≤ 8 := by rw [List.length_take]; omega
  have h2 : wsg l i t < 256 ^ 8 := Nat.lt_of_lt_of_le h (Nat.pow_le_pow_right (by decide) hl)
  unfold Wo
  omega
def wcl (l : List UInt8) (i : Nat) : List Value := [.int .u64 ((wsg l i 0 : Nat) : Int), .int .u64 ((wsg l i 1 : Nat) : Int), .int .u64 ((wsg l i 2 : Nat) : Int), .int .u64 ((wsg l i 3 : Nat) : Int)]
theorem wcl_all {l : List UInt8} (h : l.length = 32) : wcl l 32 = wv ((be l : Nat) : Int) := by
  have e : be l = wsg l 32 0 + 18446744073709551616 * wsg l 32 1 + 340282366920938463463374607431768211456 * wsg l 32 2 + 6277101735386680763835789423207666416102355444464034512896 * wsg l 32 3 := by
    unfold wsg
    have h32 : l.take 32 = l := List.take_of_length_le (by omega)
    rw [h32]
    have e0 : l = l.take 8 ++ ((l.drop 8).take 8 ++ ((l.drop 16).take 8 ++ (l.drop 24).take 8)) := by
      have h1 : l.drop 24 = (l.drop 24).take 8 := (List.take_of_length_le (by rw [List.length_drop]; omega)).symm
      have h2 : l.drop 16 = (l.drop 16).take 8 ++ l.drop 24 := by
        have := List.take_append_drop 8 (l.drop 16)
        rw [List.drop_drop] at this
        exact this.symm
      have h3 : l.drop 8 = (l.drop 8).take 8 ++ l.drop 16 := by
        have := List.take_append_drop 8 (l.drop 8)
        rw [List.drop_drop] at this
        exact this.symm
      rw [← h1, ← h2, ← h3, List.take_append_drop]
    have l1 : ((l.drop 8).take 8).length = 8 := by rw [List.length_take, List.length_drop]; omega
    have l2 : ((l.drop 16).take 8).length = 8 := by rw [List.length_take, List.length_drop]; omega
    have l3 : ((l.drop 24).take 8).length = 8 := by rw [List.length_take, List.length_drop]; omega
    have h5 := congrArg be e0
    rw [be_app, be_app, be_app] at h5
    simp only [List.length_append, l1, l2, l3, Nat.reduceAdd, Nat.reducePow] at h5
    simp only [Nat.reduceMul, Nat.reduceSub, List.drop_zero]
    omega
  rw [e]
  have h6 := wv_words (wsg_wo l 32 0) (wsg_wo l 32 1) (wsg_wo l 32 2) (wsg_wo l 32 3)
  unfold wcl
  exact h6.symm
theorem quo8 {i : Nat} (h : i < 32) : IntKind.i64.wrap (Int.tdiv (31 - (i : Int)) 8) = ((3 - i / 8 : Nat) : Int) := by
  have e : (31 - (i : Int)).tdiv 8 = (((31 - i) / 8 : Nat) : Int) := by
    rw [show (31 - (i : Int)) = ((31 - i : Nat) : Int) by omega]
    exact (Int.tdiv_eq_ediv_of_nonneg (Int.natCast_nonneg _)).trans (by omega)
  rw [e]
  exact wr64 (by omega) (by omega) (by omega)
theorem shl64 {a : Nat} (h : a < 72057594037927936) : IntKind.u64.wrap ((a : Int) * 2 ^ (min (8 : Int).toNat IntKind.u64.bits)) = ((a * 256 : Nat) : Int) := by
  have e : min (8 : Int).toNat IntKind.u64.bits = 8 := by decide
  rw [e]
  exact wru64 (by omega) (by omega) (by omega)
theorem or64 {a b : Nat} (h : a < 72057594037927936) (hb : b < 256) : orI .u64 ((a * 256 : Nat) : Int) (b : Int) = ((a * 256 + b : Nat) : Int) := by
  unfold orI
  have e1 : (BitVec.ofInt IntKind.u64.bits ((a * 256 : Nat) : Int) ||| BitVec.ofInt IntKind.u64.bits (b : Int)).toNat = a * 256 + b := by
    rw [BitVec.toNat_or, BitVec.ofInt_natCast, BitVec.ofInt_natCast, BitVec.toNat_ofNat, BitVec.toNat_ofNat]
    have e2 : IntKind.u64.bits = 64 := rfl
    rw [e2, Nat.mod_eq_of_lt (by omega), Nat.mod_eq_of_lt (by omega)]
    have h3 := Nat.shiftLeft_add_eq_or_of_lt (i := 8) (a := a) (b := b) (by omega)
    rw [Nat.shiftLeft_eq] at h3
    exact h3.symm
  rw [e1]
  exact wru64 (by omega) (by omega) (by omega)
theorem cv8 (x : UInt8) : IntKind.u64.wrap (x.toNat : Int) = (x.toNat : Int) := by
  have := x.toNat_lt
  exact wru64 (by omega) (by omega) rfl
theorem unw_n  (w : World) (hw : True) : CSpec Try.prog 115 [.slice none 0 0] [] w (Gives (.tuple #[.agg (wv 0).toArray, .bool false])) := by
  refine spec_own0 Try.func115 rfl Try.ntmps115 rfl (l0 := [(0, .slice none 0 0)]) rfl ?_
  repeat' first
    | (refine J.qr ?_; (with_reducible apply exq); focus (first
      | ((with_reducible apply Qr.loadFull); exact rfl; (focus ((repeat (first | with_reducible exact In.here | with_reducible apply In.there)); done)); (first | (with_reducible exact wv_length _) | rfl))))
    | (refine J.qo ?_; refine ⟨?_, ?_⟩; focus (first
      | ((with_reducible apply Qr.loadFull); exact rfl; (focus ((repeat (first | with_reducible exact In.here | with_reducible apply In.there)); done)); (first | (with_reducible exact wv_length _) | rfl))))
    | ((with_reducible apply J.storeFull); exact rfl; exact rfl; (repeat (first | with_reducible exact Upd.here | with_reducible apply Upd.there)); (first | (with_reducible exact wv_length _) | rfl); (first | (with_reducible exact wv_length _) | rfl | kernel_rfl); (first | (with_reducible exact wv_ones _) | rfl))
    | refine J.one ?_
    | refine J.loudS ?_
    | (refine J.loudQ ?_; intro _ _)
    | (refine J.loudB ?_; intro _)
    | (with_reducible apply J.list)
    | ((with_reducible apply J.draw (id := 8) [0, 0, 2, 6, 14, 0, 0, 96, 224, 480, 1022, 2047, 4095] (.p 0 (.p 1 (.p 2 (.q 3 (.p 4 (.p 5 (.p 6 (.p 7 (.q 8 (.p 9 (.p 10 (.p 11 (.x 12 .nil .none))))))))))))) (by kernel_rfl) ?_ (by kernel_rfl) ?_); (repeat (with_reducible first | exact PanicFree.body | exact PanicFree.np | exact PanicFree.lvS | apply PanicFree.then_ | apply PanicFree.blk)))
    | ((with_reducible apply J.pl2); exact rfl; (first | exact Gd.none | ((with_reducible apply Gd.on); exact rfl; exact rfl)); (repeat (first | (with_reducible exact PendF.nil) | ((with_reducible apply PendF.keep); exact rfl) | ((with_reducible apply PendF.gone); exact rfl))))
    | ((with_reducible apply J.pl2_off); exact rfl; ((with_reducible apply Gd.off); exact rfl; exact rfl; exact rfl); exact rfl; (repeat (first | (with_reducible exact PendF.nil) | ((with_reducible apply PendF.keep); exact rfl) | ((with_reducible apply PendF.gone); exact rfl))))
    | ((with_reducible apply J.pl2_off_none); exact rfl; ((with_reducible apply Gd.off); exact rfl; exact rfl; exact rfl); (repeat (first | (with_reducible exact PendF.nil) | ((with_reducible apply PendF.keep); exact rfl) | ((with_reducible apply PendF.gone); exact rfl))))
    | ((with_reducible first | apply J.psplit0 | apply J.psplit1 | apply J.psplit2); exact rfl; exact rfl; exact rfl)
    | (with_reducible exact J.pl_none)
    | ((with_reducible apply J.gsplit); exact rfl; exact rfl)
    | ((with_reducible first | apply J.cond | apply JC.cond); exact rfl)
    | (intro h; exfalso; (first | (simp at h; done) | (simp at h; omega) | omega))
    | (intro h; (try simp only [decide_eq_true_eq, decide_eq_false_iff_not, beq_iff_eq, beq_eq_false_iff_ne, Bool.not_eq_true', Bool.not_eq_false', bne_iff_ne, bne_eq_false_iff_eq, ne_eq, ge_iff_le, gt_iff_lt] at h))
    | (with_reducible apply J.gave')
    | ((with_reducible apply J.kept'); rotate_left; (repeat (first | (with_reducible exact Outs.nil) | ((with_reducible apply Outs.cons); (repeat (first | with_reducible exact Out.here | with_reducible apply Out.there))))))
  all_goals (rfl)
theorem unw_y (ao : Option Addr) (n cap : Nat) (l : List UInt8) (w : World) (hw : Rd w ao (bcs l) ∧ n = 32 ∧ l.length = 32) : CSpec Try.prog 115 [.slice ao n cap] [] w (Gives (.tuple #[.agg (wv ((be l : Nat) : Int)).toArray, .bool true])) := by
  obtain ⟨hr, rfl, hl⟩ := hw
  have hao : ao.isSome = true := hr.isSome (by
    intro e
    have h9 := bcs_length l
    rw [e] at h9
    simp at h9
    omega)
  refine spec_own0 Try.func115 rfl Try.ntmps115 rfl (l0 := [(0, .slice ao 32 cap)]) rfl ?_
  repeat' first
    | (refine J.qr ?_; (with_reducible apply exq); focus (first
      | ((with_reducible apply Qr.load1); exact rfl; (focus ((repeat (first | with_reducible exact In.here | with_reducible apply In.there)); done)); exact rfl)))
    | (refine J.qo ?_; refine ⟨?_, ?_⟩; focus (first
      | ((with_reducible apply Qr.load1); exact rfl; (focus ((repeat (first | with_reducible exact In.here | with_reducible apply In.there)); done)); exact rfl)))
    | refine J.one ?_
    | refine J.loudS ?_
    | (refine J.loudQ ?_; intro _ _)
    | (refine J.loudB ?_; intro _)
    | (with_reducible apply J.list)
    | ((with_reducible apply J.draw (id := 8) [0, 0, 2, 6, 14, 0, 0, 96, 224, 480, 1022, 2047, 4095] (.p 0 (.p 1 (.p 2 (.q 3 (.p 4 (.p 5 (.p 6 (.p 7 (.q 8 (.p 9 (.p 10 (.p 11 (.x 12 .nil .none))))))))))))) (by kernel_rfl) ?_ (by kernel_rfl) ?_); (repeat (with_reducible first | exact PanicFree.body | exact PanicFree.np | exact PanicFree.lvS | apply PanicFree.then_ | apply PanicFree.blk)))
    | ((with_reducible apply J.pl2); exact rfl; (first | exact Gd.none | ((with_reducible apply Gd.on); exact rfl; exact rfl)); (repeat (first | (with_reducible exact PendF.nil) | ((with_reducible apply PendF.keep); exact rfl) | ((with_reducible apply PendF.gone); exact rfl))))
    | ((with_reducible apply J.pl2_off); exact rfl; ((with_reducible apply Gd.off); exact rfl; exact rfl; exact rfl); exact rfl; (repeat (first | (with_reducible exact PendF.nil) | ((with_reducible apply PendF.keep); exact rfl) | ((with_reducible apply PendF.gone); exact rfl))))
    | ((with_reducible apply J.pl2_off_none); exact rfl; ((with_reducible apply Gd.off); exact rfl; exact rfl; exact rfl); (repeat (first | (with_reducible exact PendF.nil) | ((with_reducible apply PendF.keep); exact rfl) | ((with_reducible apply PendF.gone); exact rfl))))
    | ((with_reducible first | apply J.psplit0 | apply J.psplit1 | apply J.psplit2); exact rfl; exact rfl; exact rfl)
    | (with_reducible exact J.pl_none)
    | ((with_reducible apply J.gsplit); exact rfl; exact rfl)
    | ((with_reducible first | apply J.cond | apply JC.cond); exact rfl)
    | (intro h; exfalso; (first | (simp at h; done) | (simp at h; omega) | omega))
    | (intro h; (try simp only [decide_eq_true_eq, decide_eq_false_iff_not, beq_iff_eq, beq_eq_false_iff_ne, Bool.not_eq_true', Bool.not_eq_false', bne_iff_ne, bne_eq_false_iff_eq, ne_eq, ge_iff_le, gt_iff_lt] at h))
    | (with_reducible apply J.gave')
    | ((with_reducible apply J.kept'); rotate_left; (repeat (first | (with_reducible exact Outs.nil) | ((with_reducible apply Outs.cons); (repeat (first | with_reducible exact Out.here | with_reducible apply Out.there))))))
  rename_i b2 b4
  apply J.reB (b := b2) (C' := wv 0)
  · (repeat (first | with_reducible exact Upd.here | with_reducible apply Upd.there))
  · rfl
  apply J.reB (b := b4) (C' := wcl l 0)
  · (repeat (first | with_reducible exact Upd.here | with_reducible apply Upd.there))
  · (unfold wcl wsg; simp [be])
  apply J.loopI (σ := Nat) (I := fun q => (q ≤ 32)) (L := fun q => [(0, .slice ao 32 cap), (2, .pointer (some ⟨b2, 0, none⟩)), (4, .pointer (some ⟨b4, 0, none⟩)), (12, .int .i64 32), (13, .int .i64 (q : Int))]) (HH := fun q => [blk b2 (wv 0) 24, blk b4 (wcl l q) 24]) (m := fun q => 32 - q) (s0 := 0)
  · ((try dsimp only); (exact Nat.zero_le _))
  · ((try dsimp only); repeat (first | exact sub.nil _ | (refine sub.consE rfl ?_ ?_; (first | with_reducible rfl | (fail) | rfl))))
  · ((try dsimp only); (repeat (first | (with_reducible exact Outs.nil) | ((with_reducible apply Outs.cons); (repeat (first | with_reducible exact Out.here | with_reducible apply Out.there))))))
  rintro i hI
  try dsimp only at hI ⊢
  rcases Nat.lt_or_ge i 32 with hi2 | hi2
  · have hlt := wsg_lt l i hi2
    have hst := wsg_here (l := l) (i := i) (by omega) hi2
    rcases (by omega : i / 8 = 0 ∨ i / 8 = 1 ∨ i / 8 = 2 ∨ i / 8 = 3) with hk | hk | hk | hk
    · rw [hk] at hlt hst
      change wsg l i 3 < _ at hlt
      change wsg l (i + 1) 3 = wsg l i 3 * 256 + _ at hst
      have hsp : splice (wcl l i) 3 [.int .u64 ((wsg l (i + 1) 3 : Nat) : Int)] = wcl l (i + 1) := by
        unfold wcl
        rw [wsg_else (t := 0) (by omega) (by decide) (by rw [hk]; decide), wsg_else (t := 1) (by omega) (by decide) (by rw [hk]; decide), wsg_else (t := 2) (by omega) (by decide) (by rw [hk]; decide)]
        rfl
      have hsp2 : splice (wcl l i) 3 [.int .u64 (orI .u64 ((wsg l i 3 * 256 : Nat) : Int) ((oc l i).toNat : Int))] = wcl l (i + 1) := by
        rw [or64 hlt (oc l i).toNat_lt, ← hst]
        exact hsp
      repeat' first
        | (refine J.qv ?_; (with_reducible apply exq); focus (first
          | ((with_reducible apply Qv.sub); exact rfl; exact rfl; exact wr64 (z := 31 - (i : Int)) (by omega) (by omega) rfl)
          | ((with_reducible apply Qv.quo); exact rfl; exact rfl; decide; exact (quo8 hi2).trans (by rw [hk]))
          | ((with_reducible apply Qv.indexArr (o' := 3)); exact rfl; exact rfl; (focus (constructor <;> decide)); exact (show 0 + Int.toNat ((3 : Nat) : Int) * 1 = 3 from rfl))
          | ((with_reducible apply Qv.indexSrcs (ao := ao) (k := i)); exact rfl; exact rfl; (focus omega); (focus (constructor <;> omega)); exact hao)
          | ((with_reducible apply Qv.shl); exact rfl; exact rfl; decide; exact shl64 hlt)
          | ((with_reducible apply Qv.conv); exact rfl; exact cv8 _)
          | ((with_reducible apply Qv.or); exact rfl; exact rfl)))
        | (refine J.qr ?_; (with_reducible apply exq); focus (first
          | ((with_reducible apply Qr.load1); exact rfl; (focus ((repeat (first | with_reducible exact In.here | with_reducible apply In.there)); done)); exact (show (wcl l i)[3]? = some (.int .u64 ((wsg l i 3 : Nat) : Int)) from rfl))
          | ((with_reducible apply Qr.rd1 (C := bcs l)); exact rfl; exact RH.old hr; (rw [Nat.mul_one]; exact bcs_get (oc_get (by omega))))))
        | (refine J.qo ?_; refine ⟨?_, ?_⟩; focus (first
          | ((with_reducible apply Qr.load1); exact rfl; (focus ((repeat (first | with_reducible exact In.here | with_reducible apply In.there)); done)); exact (show (wcl l i)[3]? = some (.int .u64 ((wsg l i 3 : Nat) : Int)) from rfl))
          | ((with_reducible apply Qr.rd1 (C := bcs l)); exact rfl; exact RH.old hr; (rw [Nat.mul_one]; exact bcs_get (oc_get (by omega))))))
        | ((with_reducible apply J.store1); exact rfl; exact rfl; exact rfl; (repeat (first | with_reducible exact Upd.here | with_reducible apply Upd.there)); exact hsp2; (first | decide | (show 3 + 1 ≤ 4; decide)))
        | refine J.one ?_
        | refine J.loudS ?_
        | (refine J.loudQ ?_; intro _ _)
        | (refine J.loudB ?_; intro _)
        | (with_reducible apply J.list)
        | ((with_reducible apply J.draw (id := 8) [0, 0, 2, 6, 14, 0, 0, 96, 224, 480, 1022, 2047, 4095] (.p 0 (.p 1 (.p 2 (.q 3 (.p 4 (.p 5 (.p 6 (.p 7 (.q 8 (.p 9 (.p 10 (.p 11 (.x 12 .nil .none))))))))))))) (by kernel_rfl) ?_ (by kernel_rfl) ?_); (repeat (with_reducible first | exact PanicFree.body | exact PanicFree.np | exact PanicFree.lvS | apply PanicFree.then_ | apply PanicFree.blk)))
        | ((with_reducible apply J.pl2); exact rfl; (first | exact Gd.none | ((with_reducible apply Gd.on); exact rfl; exact rfl)); (repeat (first | (with_reducible exact PendF.nil) | ((with_reducible apply PendF.keep); exact rfl) | ((with_reducible apply PendF.gone); exact rfl))))
        | ((with_reducible apply J.pl2_off); exact rfl; ((with_reducible apply Gd.off); exact rfl; exact rfl; exact rfl); exact rfl; (repeat (first | (with_reducible exact PendF.nil) | ((with_reducible apply PendF.keep); exact rfl) | ((with_reducible apply PendF.gone); exact rfl))))
        | ((with_reducible apply J.pl2_off_none); exact rfl; ((with_reducible apply Gd.off); exact rfl; exact rfl; exact rfl); (repeat (first | (with_reducible exact PendF.nil) | ((with_reducible apply PendF.keep); exact rfl) | ((with_reducible apply PendF.gone); exact rfl))))
        | ((with_reducible first | apply J.psplit0 | apply J.psplit1 | apply J.psplit2); exact rfl; exact rfl; exact rfl)
        | (with_reducible exact J.pl_none)
        | ((with_reducible apply J.gsplit); exact rfl; exact rfl)
        | ((with_reducible first | apply J.cond | apply JC.cond); exact rfl)
        | (intro h; exfalso; (first | (simp at h; done) | (simp at h; omega) | omega))
        | (intro h; (try simp only [decide_eq_true_eq, decide_eq_false_iff_not, beq_iff_eq, beq_eq_false_iff_ne, Bool.not_eq_true', Bool.not_eq_false', bne_iff_ne, bne_eq_false_iff_eq, ne_eq, ge_iff_le, gt_iff_lt] at h))
        | (with_reducible apply J.gave')
        | ((with_reducible apply J.kept'); rotate_left; (repeat (first | (with_reducible exact Outs.nil) | ((with_reducible apply Outs.cons); (repeat (first | with_reducible exact Out.here | with_reducible apply Out.there))))))
      all_goals first
        | (apply J.againI (s := i) (s' := (i + 1)); (focus (omega)); (focus ((try dsimp only); (show i + 1 ≤ 32; omega))); (focus (((try dsimp only); repeat (first | exact sub.nil _ | (refine sub.consE rfl ?_ ?_; (first | with_reducible rfl | ((focus (congr 1; omega))) | rfl)))))); ((try dsimp only); (repeat (first | (with_reducible exact Outs.nil) | ((with_reducible apply Outs.cons); (repeat (first | with_reducible exact Out.here | with_reducible apply Out.there)))))))
        | (trace_state; fail)
    · rw [hk] at hlt hst
      change wsg l i 2 < _ at hlt
      change wsg l (i + 1) 2 = wsg l i 2 * 256 + _ at hst
      have hsp : splice (wcl l i) 2 [.int .u64 ((wsg l (i + 1) 2 : Nat) : Int)] = wcl l (i + 1) := by
        unfold wcl
        rw [wsg_else (t := 0) (by omega) (by decide) (by rw [hk]; decide), wsg_else (t := 1) (by omega) (by decide) (by rw [hk]; decide), wsg_else (t := 3) (by omega) (by decide) (by rw [hk]; decide)]
        rfl
      have hsp2 : splice (wcl l i) 2 [.int .u64 (orI .u64 ((wsg l i 2 * 256 : Nat) : Int) ((oc l i).toNat : Int))] = wcl l (i + 1) := by
        rw [or64 hlt (oc l i).toNat_lt, ← hst]
        exact hsp
      repeat' first
        | (refine J.qv ?_; (with_reducible apply exq); focus (first
          | ((with_reducible apply Qv.sub); exact rfl; exact rfl; exact wr64 (z := 31 - (i : Int)) (by omega) (by omega) rfl)
          | ((with_reducible apply Qv.quo); exact rfl; exact rfl; decide; exact (quo8 hi2).trans (by rw [hk]))
          | ((with_reducible apply Qv.indexArr (o' := 2)); exact rfl; exact rfl; (focus (constructor <;> decide)); exact (show 0 + Int.toNat ((2 : Nat) : Int) * 1 = 2 from rfl))
          | ((with_reducible apply Qv.indexSrcs (ao := ao) (k := i)); exact rfl; exact rfl; (focus omega); (focus (constructor <;> omega)); exact hao)
          | ((with_reducible apply Qv.shl); exact rfl; exact rfl; decide; exact shl64 hlt)
          | ((with_reducible apply Qv.conv); exact rfl; exact cv8 _)
          | ((with_reducible apply Qv.or); exact rfl; exact rfl)))
        | (refine J.qr ?_; (with_reducible apply exq); focus (first
          | ((with_reducible apply Qr.load1); exact rfl; (focus ((repeat (first | with_reducible exact In.here | with_reducible apply In.there)); done)); exact (show (wcl l i)[2]? = some (.int .u64 ((wsg l i 2 : Nat) : Int)) from rfl))
          | ((with_reducible apply Qr.rd1 (C := bcs l)); exact rfl; exact RH.old hr; (rw [Nat.mul_one]; exact bcs_get (oc_get (by omega))))))
        | (refine J.qo ?_; refine ⟨?_, ?_⟩; focus (first
          | ((with_reducible apply Qr.load1); exact rfl; (focus ((repeat (first | with_reducible exact In.here | with_reducible apply In.there)); done)); exact (show (wcl l i)[2]? = some (.int .u64 ((wsg l i 2 : Nat) : Int)) from rfl))
          | ((with_reducible apply Qr.rd1 (C := bcs l)); exact rfl; exact RH.old hr; (rw [Nat.mul_one]; exact bcs_get (oc_get (by omega))))))
        | ((with_reducible apply J.store1); exact rfl; exact rfl; exact rfl; (repeat (first | with_reducible exact Upd.here | with_reducible apply Upd.there)); exact hsp2; (first | decide | (show 2 + 1 ≤ 4; decide)))
        | refine J.one ?_
        | refine J.loudS ?_
        | (refine J.loudQ ?_; intro _ _)
        | (refine J.loudB ?_; intro _)
        | (with_reducible apply J.list)
        | ((with_reducible apply J.draw (id := 8) [0, 0, 2, 6, 14, 0, 0, 96, 224, 480, 1022, 2047, 4095] (.p 0 (.p 1 (.p 2 (.q 3 (.p 4 (.p 5 (.p 6 (.p 7 (.q 8 (.p 9 (.p 10 (.p 11 (.x 12 .nil .none))))))))))))) (by kernel_rfl) ?_ (by kernel_rfl) ?_); (repeat (with_reducible first | exact PanicFree.body | exact PanicFree.np | exact PanicFree.lvS | apply PanicFree.then_ | apply PanicFree.blk)))
        | ((with_reducible apply J.pl2); exact rfl; (first | exact Gd.none | ((with_reducible apply Gd.on); exact rfl; exact rfl)); (repeat (first | (with_reducible exact PendF.nil) | ((with_reducible apply PendF.keep); exact rfl) | ((with_reducible apply PendF.gone); exact rfl))))
        | ((with_reducible apply J.pl2_off); exact rfl; ((with_reducible apply Gd.off); exact rfl; exact rfl; exact rfl); exact rfl; (repeat (first | (with_reducible exact PendF.nil) | ((with_reducible apply PendF.keep); exact rfl) | ((with_reducible apply PendF.gone); exact rfl))))
        | ((with_reducible apply J.pl2_off_none); exact rfl; ((with_reducible apply Gd.off); exact rfl; exact rfl; exact rfl); (repeat (first | (with_reducible exact PendF.nil) | ((with_reducible apply PendF.keep); exact rfl) | ((with_reducible apply PendF.gone); exact rfl))))
        | ((with_reducible first | apply J.psplit0 | apply J.psplit1 | apply J.psplit2); exact rfl; exact rfl; exact rfl)
        | (with_reducible exact J.pl_none)
        | ((with_reducible apply J.gsplit); exact rfl; exact rfl)
        | ((with_reducible first | apply J.cond | apply JC.cond); exact rfl)
        | (intro h; exfalso; (first | (simp at h; done) | (simp at h; omega) | omega))
        | (intro h; (try simp only [decide_eq_true_eq, decide_eq_false_iff_not, beq_iff_eq, beq_eq_false_iff_ne, Bool.not_eq_true', Bool.not_eq_false', bne_iff_ne, bne_eq_false_iff_eq, ne_eq, ge_iff_le, gt_iff_lt] at h))
        | (with_reducible apply J.gave')
        | ((with_reducible apply J.kept'); rotate_left; (repeat (first | (with_reducible exact Outs.nil) | ((with_reducible apply Outs.cons); (repeat (first | with_reducible exact Out.here | with_reducible apply Out.there))))))
      all_goals first
        | (apply J.againI (s := i) (s' := (i + 1)); (focus (omega)); (focus ((try dsimp only); (show i + 1 ≤ 32; omega))); (focus (((try dsimp only); repeat (first | exact sub.nil _ | (refine sub.consE rfl ?_ ?_; (first | with_reducible rfl | ((focus (congr 1; omega))) | rfl)))))); ((try dsimp only); (repeat (first | (with_reducible exact Outs.nil) | ((with_reducible apply Outs.cons); (repeat (first | with_reducible exact Out.here | with_reducible apply Out.there)))))))
        | (trace_state; fail)
    · rw [hk] at hlt hst
      change wsg l i 1 < _ at hlt
      change wsg l (i + 1) 1 = wsg l i 1 * 256 + _ at hst
      have hsp : splice (wcl l i) 1 [.int .u64 ((wsg l (i + 1) 1 : Nat) : Int)] = wcl l (i + 1) := by
        unfold wcl
        rw [wsg_else (t := 0) (by omega) (by decide) (by rw [hk]; decide), wsg_else (t := 2) (by omega) (by decide) (by rw [hk]; decide), wsg_else (t := 3) (by omega) (by decide) (by rw [hk]; decide)]
        rfl
      have hsp2 : splice (wcl l i) 1 [.int .u64 (orI .u64 ((wsg l i 1 * 256 : Nat) : Int) ((oc l i).toNat : Int))] = wcl l (i + 1) := by
        rw [or64 hlt (oc l i).toNat_lt, ← hst]
        exact hsp
      repeat' first
        | (refine J.qv ?_; (with_reducible apply exq); focus (first
          | ((with_reducible apply Qv.sub); exact rfl; exact rfl; exact wr64 (z := 31 - (i : Int)) (by omega) (by omega) rfl)
          | ((with_reducible apply Qv.quo); exact rfl; exact rfl; decide; exact (quo8 hi2).trans (by rw [hk]))
          | ((with_reducible apply Qv.indexArr (o' := 1)); exact rfl; exact rfl; (focus (constructor <;> decide)); exact (show 0 + Int.toNat ((1 : Nat) : Int) * 1 = 1 from rfl))
          | ((with_reducible apply Qv.indexSrcs (ao := ao) (k := i)); exact rfl; exact rfl; (focus omega); (focus (constructor <;> omega)); exact hao)
          | ((with_reducible apply Qv.shl); exact rfl; exact rfl; decide; exact shl64 hlt)
          | ((with_reducible apply Qv.conv); exact rfl; exact cv8 _)
          | ((with_reducible apply Qv.or); exact rfl; exact rfl)))
        | (refine J.qr ?_; (with_reducible apply exq); focus (first
          | ((with_reducible apply Qr.load1); exact rfl; (focus ((repeat (first | with_reducible exact In.here | with_reducible apply In.there)); done)); exact (show (wcl l i)[1]? = some (.int .u64 ((wsg l i 1 : Nat) : Int)) from rfl))
          | ((with_reducible apply Qr.rd1 (C := bcs l)); exact rfl; exact RH.old hr; (rw [Nat.mul_one]; exact bcs_get (oc_get (by omega))))))
        | (refine J.qo ?_; refine ⟨?_, ?_⟩; focus (first
          | ((with_reducible apply Qr.load1); exact rfl; (focus ((repeat (first | with_reducible exact In.here | with_reducible apply In.there)); done)); exact (show (wcl l i)[1]? = some (.int .u64 ((wsg l i 1 : Nat) : Int)) from rfl))
          | ((with_reducible apply Qr.rd1 (C := bcs l)); exact rfl; exact RH.old hr; (rw [Nat.mul_one]; exact bcs_get (oc_get (by omega))))))
        | ((with_reducible apply J.store1); exact rfl; exact rfl; exact rfl; (repeat (first | with_reducible exact Upd.here | with_reducible apply Upd.there)); exact hsp2; (first | decide | (show 1 + 1 ≤ 4; decide)))
        | refine J.one ?_
        | refine J.loudS ?_
        | (refine J.loudQ ?_; intro _ _)
        | (refine J.loudB ?_; intro _)
        | (with_reducible apply J.list)
        | ((with_reducible apply J.draw (id := 8) [0, 0, 2, 6, 14, 0, 0, 96, 224, 480, 1022, 2047, 4095] (.p 0 (.p 1 (.p 2 (.q 3 (.p 4 (.p 5 (.p 6 (.p 7 (.q 8 (.p 9 (.p 10 (.p 11 (.x 12 .nil .none))))))))))))) (by kernel_rfl) ?_ (by kernel_rfl) ?_); (repeat (with_reducible first | exact PanicFree.body | exact PanicFree.np | exact PanicFree.lvS | apply PanicFree.then_ | apply PanicFree.blk)))
        | ((with_reducible apply J.pl2); exact rfl; (first | exact Gd.none | ((with_reducible apply Gd.on); exact rfl; exact rfl)); (repeat (first | (with_reducible exact PendF.nil) | ((with_reducible apply PendF.keep); exact rfl) | ((with_reducible apply PendF.gone); exact rfl))))
        | ((with_reducible apply J.pl2_off); exact rfl; ((with_reducible apply Gd.off); exact rfl; exact rfl; exact rfl); exact rfl; (repeat (first | (with_reducible exact PendF.nil) | ((with_reducible apply PendF.keep); exact rfl) | ((with_reducible apply PendF.gone); exact rfl))))
        | ((with_reducible apply J.pl2_off_none); exact rfl; ((with_reducible apply Gd.off); exact rfl; exact rfl; exact rfl); (repeat (first | (with_reducible exact PendF.nil) | ((with_reducible apply PendF.keep); exact rfl) | ((with_reducible apply PendF.gone); exact rfl))))
        | ((with_reducible first | apply J.psplit0 | apply J.psplit1 | apply J.psplit2); exact rfl; exact rfl; exact rfl)
        | (with_reducible exact J.pl_none)
        | ((with_reducible apply J.gsplit); exact rfl; exact rfl)
        | ((with_reducible first | apply J.cond | apply JC.cond); exact rfl)
        | (intro h; exfalso; (first | (simp at h; done) | (simp at h; omega) | omega))
        | (intro h; (try simp only [decide_eq_true_eq, decide_eq_false_iff_not, beq_iff_eq, beq_eq_false_iff_ne, Bool.not_eq_true', Bool.not_eq_false', bne_iff_ne, bne_eq_false_iff_eq, ne_eq, ge_iff_le, gt_iff_lt] at h))
        | (with_reducible apply J.gave')
        | ((with_reducible apply J.kept'); rotate_left; (repeat (first | (with_reducible exact Outs.nil) | ((with_reducible apply Outs.cons); (repeat (first | with_reducible exact Out.here | with_reducible apply Out.there))))))
      all_goals first
        | (apply J.againI (s := i) (s' := (i + 1)); (focus (omega)); (focus ((try dsimp only); (show i + 1 ≤ 32; omega))); (focus (((try dsimp only); repeat (first | exact sub.nil _ | (refine sub.consE rfl ?_ ?_; (first | with_reducible rfl | ((focus (congr 1; omega))) | rfl)))))); ((try dsimp only); (repeat (first | (with_reducible exact Outs.nil) | ((with_reducible apply Outs.cons); (repeat (first | with_reducible exact Out.here | with_reducible apply Out.there)))))))
        | (trace_state; fail)
    · rw [hk] at hlt hst
      change wsg l i 0 < _ at hlt
      change wsg l (i + 1) 0 = wsg l i 0 * 256 + _ at hst
      have hsp : splice (wcl l i) 0 [.int .u64 ((wsg l (i + 1) 0 : Nat) : Int)] = wcl l (i + 1) := by
        unfold wcl
        rw [wsg_else (t := 1) (by omega) (by decide) (by rw [hk]; decide), wsg_else (t := 2) (by omega) (by decide) (by rw [hk]; decide), wsg_else (t := 3) (by omega) (by decide) (by rw [hk]; decide)]
        rfl
      have hsp2 : splice (wcl l i) 0 [.int .u64 (orI .u64 ((wsg l i 0 * 256 : Nat) : Int) ((oc l i).toNat : Int))] = wcl l (i + 1) := by
        rw [or64 hlt (oc l i).toNat_lt, ← hst]
        exact hsp
      repeat' first
        | (refine J.qv ?_; (with_reducible apply exq); focus (first
          | ((with_reducible apply Qv.sub); exact rfl; exact rfl; exact wr64 (z := 31 - (i : Int)) (by omega) (by omega) rfl)
          | ((with_reducible apply Qv.quo); exact rfl; exact rfl; decide; exact (quo8 hi2).trans (by rw [hk]))
          | ((with_reducible apply Qv.indexArr (o' := 0)); exact rfl; exact rfl; (focus (constructor <;> decide)); exact (show 0 + Int.toNat ((0 : Nat) : Int) * 1 = 0 from rfl))
          | ((with_reducible apply Qv.indexSrcs (ao := ao) (k := i)); exact rfl; exact rfl; (focus omega); (focus (constructor <;> omega)); exact hao)
          | ((with_reducible apply Qv.shl); exact rfl; exact rfl; decide; exact shl64 hlt)
          | ((with_reducible apply Qv.conv); exact rfl; exact cv8 _)
          | ((with_reducible apply Qv.or); exact rfl; exact rfl)))
        | (refine J.qr ?_; (with_reducible apply exq); focus (first
          | ((with_reducible apply Qr.load1); exact rfl; (focus ((repeat (first | with_reducible exact In.here | with_reducible apply In.there)); done)); exact (show (wcl l i)[0]? = some (.int .u64 ((wsg l i 0 : Nat) : Int)) from rfl))
          | ((with_reducible apply Qr.rd1 (C := bcs l)); exact rfl; exact RH.old hr; (rw [Nat.mul_one]; exact bcs_get (oc_get (by omega))))))
        | (refine J.qo ?_; refine ⟨?_, ?_⟩; focus (first
          | ((with_reducible apply Qr.load1); exact rfl; (focus ((repeat (first | with_reducible exact In.here | with_reducible apply In.there)); done)); exact (show (wcl l i)[0]? = some (.int .u64 ((wsg l i 0 : Nat) : Int)) from rfl))
          | ((with_reducible apply Qr.rd1 (C := bcs l)); exact rfl; exact RH.old hr; (rw [Nat.mul_one]; exact bcs_get (oc_get (by omega))))))
        | ((with_reducible apply J.store1); exact rfl; exact rfl; exact rfl; (repeat (first | with_reducible exact Upd.here | with_reducible apply Upd.there)); exact hsp2; (first | decide | (show 0 + 1 ≤ 4; decide)))
        | refine J.one ?_
        | refine J.loudS ?_
        | (refine J.loudQ ?_; intro _ _)
        | (refine J.loudB ?_; intro _)
        | (with_reducible apply J.list)
        | ((with_reducible apply J.draw (id := 8) [0, 0, 2, 6, 14, 0, 0, 96, 224, 480, 1022, 2047, 4095] (.p 0 (.p 1 (.p 2 (.q 3 (.p 4 (.p 5 (.p 6 (.p 7 (.q 8 (.p 9 (.p 10 (.p 11 (.x 12 .nil .none))))))))))))) (by kernel_rfl) ?_ (by kernel_rfl) ?_); (repeat (with_reducible first | exact PanicFree.body | exact PanicFree.np | exact PanicFree.lvS | apply PanicFree.then_ | apply PanicFree.blk)))
        | ((with_reducible apply J.pl2); exact rfl; (first | exact Gd.none | ((with_reducible apply Gd.on); exact rfl; exact rfl)); (repeat (first | (with_reducible exact PendF.nil) | ((with_reducible apply PendF.keep); exact rfl) | ((with_reducible apply PendF.gone); exact rfl))))
        | ((with_reducible apply J.pl2_off); exact rfl; ((with_reducible apply Gd.off); exact rfl; exact rfl; exact rfl); exact rfl; (repeat (first | (with_reducible exact PendF.nil) | ((with_reducible apply PendF.keep); exact rfl) | ((with_reducible apply PendF.gone); exact rfl))))
        | ((with_reducible apply J.pl2_off_none); exact rfl; ((with_reducible apply Gd.off); exact rfl; exact rfl; exact rfl); (repeat (first | (with_reducible exact PendF.nil) | ((with_reducible apply PendF.keep); exact rfl) | ((with_reducible apply PendF.gone); exact rfl))))
        | ((with_reducible first | apply J.psplit0 | apply J.psplit1 | apply J.psplit2); exact rfl; exact rfl; exact rfl)
        | (with_reducible exact J.pl_none)
        | ((with_reducible apply J.gsplit); exact rfl; exact rfl)
        | ((with_reducible first | apply J.cond | apply JC.cond); exact rfl)
        | (intro h; exfalso; (first | (simp at h; done) | (simp at h; omega) | omega))
        | (intro h; (try simp only [decide_eq_true_eq, decide_eq_false_iff_not, beq_iff_eq, beq_eq_false_iff_ne, Bool.not_eq_true', Bool.not_eq_false', bne_iff_ne, bne_eq_false_iff_eq, ne_eq, ge_iff_le, gt_iff_lt] at h))
        | (with_reducible apply J.gave')
        | ((with_reducible apply J.kept'); rotate_left; (repeat (first | (with_reducible exact Outs.nil) | ((with_reducible apply Outs.cons); (repeat (first | with_reducible exact Out.here | with_reducible apply Out.there))))))
      all_goals first
        | (apply J.againI (s := i) (s' := (i + 1)); (focus (omega)); (focus ((try dsimp only); (show i + 1 ≤ 32; omega))); (focus (((try dsimp only); repeat (first | exact sub.nil _ | (refine sub.consE rfl ?_ ?_; (first | with_reducible rfl | ((focus (congr 1; omega))) | rfl)))))); ((try dsimp only); (repeat (first | (with_reducible exact Outs.nil) | ((with_reducible apply Outs.cons); (repeat (first | with_reducible exact Out.here | with_reducible apply Out.there)))))))
        | (trace_state; fail)
  · obtain rfl : i = 32 := by omega
    have hall := wcl_all hl
    rw [hall]
    repeat' first
      | (refine J.qr ?_; (with_reducible apply exq); focus (first
        | ((with_reducible apply Qr.loadFull); exact rfl; (focus ((repeat (first | with_reducible exact In.here | with_reducible apply In.there)); done)); (first | (with_reducible exact wv_length _) | rfl))))
      | (refine J.qo ?_; refine ⟨?_, ?_⟩; focus (first
        | ((with_reducible apply Qr.loadFull); exact rfl; (focus ((repeat (first | with_reducible exact In.here | with_reducible apply In.there)); done)); (first | (with_reducible exact wv_length _) | rfl))))
      | ((with_reducible apply J.storeFull); exact rfl; exact rfl; (repeat (first | with_reducible exact Upd.here | with_reducible apply Upd.there)); (first | (with_reducible exact wv_length _) | rfl); (first | (with_reducible exact wv_length _) | rfl | kernel_rfl); (first | (with_reducible exact wv_ones _) | rfl))
      | refine J.one ?_
      | refine J.loudS ?_
      | (refine J.loudQ ?_; intro _ _)
      | (refine J.loudB ?_; intro _)
      | (with_reducible apply J.list)
      | ((with_reducible apply J.draw (id := 8) [0, 0, 2, 6, 14, 0, 0, 96, 224, 480, 1022, 2047, 4095] (.p 0 (.p 1 (.p 2 (.q 3 (.p 4 (.p 5 (.p 6 (.p 7 (.q 8 (.p 9 (.p 10 (.p 11 (.x 12 .nil .none))))))))))))) (by kernel_rfl) ?_ (by kernel_rfl) ?_); (repeat (with_reducible first | exact PanicFree.body | exact PanicFree.np | exact PanicFree.lvS | apply PanicFree.then_ | apply PanicFree.blk)))
      | ((with_reducible apply J.pl2); exact rfl; (first | exact Gd.none | ((with_reducible apply Gd.on); exact rfl; exact rfl)); (repeat (first | (with_reducible exact PendF.nil) | ((with_reducible apply PendF.keep); exact rfl) | ((with_reducible apply PendF.gone); exact rfl))))
      | ((with_reducible apply J.pl2_off); exact rfl; ((with_reducible apply Gd.off); exact rfl; exact rfl; exact rfl); exact rfl; (repeat (first | (with_reducible exact PendF.nil) | ((with_reducible apply PendF.keep); exact rfl) | ((with_reducible apply PendF.gone); exact rfl))))
      | ((with_reducible apply J.pl2_off_none); exact rfl; ((with_reducible apply Gd.off); exact rfl; exact rfl; exact rfl); (repeat (first | (with_reducible exact PendF.nil) | ((with_reducible apply PendF.keep); exact rfl) | ((with_reducible apply PendF.gone); exact rfl))))
      | ((with_reducible first | apply J.psplit0 | apply J.psplit1 | apply J.psplit2); exact rfl; exact rfl; exact rfl)
      | (with_reducible exact J.pl_none)
      | ((with_reducible apply J.gsplit); exact rfl; exact rfl)
      | ((with_reducible first | apply J.cond | apply JC.cond); exact rfl)
      | (intro h; exfalso; (first | (simp at h; done) | (simp at h; omega) | omega))
      | (intro h; (try simp only [decide_eq_true_eq, decide_eq_false_iff_not, beq_iff_eq, beq_eq_false_iff_ne, Bool.not_eq_true', Bool.not_eq_false', bne_iff_ne, bne_eq_false_iff_eq, ne_eq, ge_iff_le, gt_iff_lt] at h))
      | (with_reducible apply J.gave')
      | ((with_reducible apply J.kept'); rotate_left; (repeat (first | (with_reducible exact Outs.nil) | ((with_reducible apply Outs.cons); (repeat (first | with_reducible exact Out.here | with_reducible apply Out.there))))))
    all_goals first
      | rfl
      | (trace_state; fail)
end Go.Proofs.Ytfcaeifpclpnoaa.Unw
