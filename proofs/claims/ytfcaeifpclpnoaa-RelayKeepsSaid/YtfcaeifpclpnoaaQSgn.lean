/-
  Signatures by the second leaf. No conditions.
-/
import Derived.Test.YtfcaeifpclpnoaaQMrt
import Derived.Test.YtfcaeifpclpnoaaQAst
import Derived.Test.YtfcaeifpclpnoaaQCl
namespace Go.Proofs.Ytfcaeifpclpnoaa.Sgn
open Go Go.RowKit Eng
set_option linter.unusedVariables false
set_option maxRecDepth 100000
set_option linter.unusedSimpArgs false
open Sha Iter Hash Bytes Hsum Ots Rsum Rovr Mrt
set_option maxHeartbeats 1000000
/-- The parts, so many of them walked. -/
def pw (seed : List UInt8) (leaf : Nat) (t : List UInt8) (i j : Nat) : List UInt8 := if j < i then wk (bgn seed leaf j) ((dgs t).getD j 0) else bgn seed leaf j
def partL (seed : List UInt8) (leaf : Nat) (t : List UInt8) : List (List UInt8) := (List.range 15).map (pw seed leaf t 15)
theorem scs_tab (f : Nat → List UInt8) (n : Nat) : scs ((List.range n).map f) = tab (fun j => str (f j)) n := tab_eq (by simp [scs]) fun k hk => by simp [scs, hk]
theorem pw_0 (seed : List UInt8) (leaf : Nat) (t : List UInt8) : scs (bgL seed leaf) = tab (fun j => str (pw seed leaf t 0 j)) 15 := scs_tab (bgn seed leaf) 15
theorem pw_15 (seed : List UInt8) (leaf : Nat) (t : List UInt8) : tab (fun j => str (pw seed leaf t 15 j)) 15 = scs (partL seed leaf t) := (scs_tab _ _).symm
theorem pw_s (seed : List UInt8) (leaf : Nat) (t : List UInt8) {i d : Nat} (hi : i < 15) (hd : (dgs t)[i]? = some d) : splice (tab (fun j => str (pw seed leaf t i j)) 15) (i * 1) [str (wk (bgn seed leaf i) d)] = tab (fun j => str (pw seed leaf t (i + 1) j)) 15 := by
  rw [tab_put (k := i) (by omega) hi]
  refine tab_same fun j hj => ?_
  by_cases e : j = i
  · subst e
    rw [if_pos rfl]
    unfold pw
    rw [if_pos (by omega), List.getD_eq_getElem?_getD, hd]
    rfl
  · rw [if_neg e]
    unfold pw
    by_cases h : j < i
    · rw [if_pos h, if_pos (by omega)]
    · rw [if_neg h, if_neg (by omega)]
theorem pw_here (seed : List UInt8) (leaf : Nat) (t : List UInt8) (i : Nat) : pw seed leaf t i i = bgn seed leaf i := if_neg (Nat.lt_irrefl i)
theorem pw_len (seed : List UInt8) (leaf : Nat) (t : List UInt8) (i j : Nat) : (pw seed leaf t i j).length = 8 := by
  unfold pw
  split
  · exact wk8 (short_length _) _
  · exact short_length _
/-- The other ones, of the second leaf. -/
def r2F2 (seed : List UInt8) : List UInt8 := short (pubF seed 2 ++ pubF seed 3)
def r4F2 (seed : List UInt8) : List UInt8 := short (short (pubF seed 4 ++ pubF seed 5) ++ short (pubF seed 6 ++ pubF seed 7))
def path1 (seed : List UInt8) : List (List UInt8) := [pubF seed 0, r2F2 seed, r4F2 seed]
def sig1 (seed t : List UInt8) : List UInt8 := [1] ++ (partL seed 1 t ++ path1 seed).flatten
theorem all_len (seed t : List UInt8) : ∀ x, x ∈ partL seed 1 t ++ path1 seed → x.length = 8 := by
  intro x hx
  rcases List.mem_append.1 hx with h | h
  · simp only [partL, List.mem_map] at h
    obtain ⟨j, _, rfl⟩ := h
    exact pw_len _ _ _ _ _
  · simp only [path1, List.mem_cons, List.not_mem_nil, or_false] at h
    rcases h with rfl | rfl | rfl
    · exact pubF_length _ _
    · exact short_length _
    · exact short_length _
theorem all_count (seed t : List UInt8) : (partL seed 1 t ++ path1 seed).length = 18 := by simp [partL, path1]
theorem flat8 : ∀ {L : List (List UInt8)}, (∀ x, x ∈ L → x.length = 8) → L.flatten.length = 8 * L.length
  | [], _ => rfl
  | a :: L, h => by
    have h1 := flat8 (L := L) fun x hx => h x (by simp [hx])
    have h2 := h a (by simp)
    simp only [List.flatten_cons, List.length_append, List.length_cons]
    omega
theorem sig1_length (seed t : List UInt8) : (sig1 seed t).length = 145 := by
  unfold sig1
  rw [List.length_append, flat8 (all_len seed t), all_count]
  rfl
theorem sign_o (seed : List UInt8) (leaf : Nat) (hl : leaf ≤ 7) (ao : Option Addr) (n cap : Nat) (l : List UInt8) (w : World) (hw : Rd w ao (bcs l) ∧ n = l.length ∧ l.length ≤ 1099511627776 ∧ seed.length ≤ 1000) : CSpec Try.prog 104 [str seed, .int .i64 (leaf : Int), .slice ao n cap] [] w (Fresh 9 1 15 (scs (partL seed leaf l)) []) := by
  obtain ⟨hr, rfl, hn, hs⟩ := hw
  refine spec_own0 Try.func104 rfl Try.ntmps104 rfl (l0 := [(0, str seed), (1, .int .i64 (leaf : Int)), (2, .slice ao l.length cap)]) rfl ?_
  repeat' first
    | ((with_reducible apply J.freshR (begin_ seed leaf hl)); exact rfl; exact rfl; (focus (exact RH.of hs)); intro _ _)
    | ((with_reducible apply J.freshR (digits_ _ _ _ l)); exact rfl; exact rfl; (focus (exact RH.and (RH.old hr) (RH.of ⟨rfl, hn⟩))); intro _ _)
    | refine J.one ?_
    | refine J.loudS ?_
    | (refine J.loudQ ?_; intro _ _)
    | (refine J.loudB ?_; intro _)
    | (with_reducible apply J.list)
    | ((with_reducible apply J.gsplit); exact rfl; exact rfl)
    | ((with_reducible first | apply J.cond | apply JC.cond); exact rfl)
    | (intro h; exfalso; fail)
    | (intro h; (try simp only [decide_eq_true_eq, decide_eq_false_iff_not, beq_iff_eq, beq_eq_false_iff_ne, Bool.not_eq_true', Bool.not_eq_false', bne_iff_ne, bne_eq_false_iff_eq, ne_eq, ge_iff_le, gt_iff_lt] at h))
    | (with_reducible apply J.gave')
    | ((with_reducible apply J.kept'); rotate_left; (repeat (first | (with_reducible exact Outs.nil) | ((with_reducible apply Outs.cons); (repeat (first | with_reducible exact Out.here | with_reducible apply Out.there))))))
  rename_i qo _ qd _
  rw [pw_0 seed leaf l]
  apply J.loopI (σ := Nat) (I := fun s => (s ≤ 15)) (L := fun s => [(7, .slice qo.1 15 qo.2), (14, .slice qd.1 15 qd.2), (15, .int .i64 15), (16, .int .i64 (s : Int))]) (HH := fun s => [row (.slice qo.1 15 qo.2) 9 1 15 (tab (fun j => str (pw seed leaf l s j)) 15), row (.slice qd.1 15 qd.2) 3 1 15 (ncs (dgs l))]) (m := fun s => 15 - s) (s0 := 0)
  · ((try dsimp only); (exact Nat.zero_le _))
  · ((try dsimp only); repeat (first | exact sub.nil _ | (refine sub.consE rfl ?_ ?_; (first | with_reducible rfl | (fail) | rfl))))
  · ((try dsimp only); (repeat (first | (with_reducible exact Outs.nil) | ((with_reducible apply Outs.cons); (repeat (first | with_reducible exact Out.here | with_reducible apply Out.there))))))
  rintro i hI
  try dsimp only at hI ⊢
  rcases Nat.lt_or_ge i 15 with hlt | hge
  · obtain ⟨d, hd⟩ : ∃ d, (dgs l)[i]? = some d := ⟨_, List.getElem?_eq_getElem (by rw [dgs_length]; exact hlt)⟩
    have hd3 : d ≤ 3 := dgs_le (List.mem_of_getElem? hd)
    repeat' first
      | (refine J.qr ?_; (with_reducible apply exq); focus (first
        | ((with_reducible apply Qr.indexRd (k := i) (C := ncs (dgs l))); exact rfl; exact rfl; exact rfl; omega; exact RH.row (by (repeat (first | with_reducible exact In.here | with_reducible apply In.there))); (rw [ncs_length, dgs_length]; omega))
        | ((with_reducible apply Qr.rd1 (C := ncs (dgs l)) (j := i * 1)); exact rfl; exact RH.row (by (repeat (first | with_reducible exact In.here | with_reducible apply In.there))); (rw [Nat.mul_one]; exact ncs_get hd))
        | ((with_reducible apply Qr.indexRd (k := i) (C := tab (fun j => str (pw seed leaf l i j)) 15)); exact rfl; exact rfl; exact rfl; omega; exact RH.row (by (repeat (first | with_reducible exact In.here | with_reducible apply In.there))); (rw [tab_length]; omega))
        | ((with_reducible apply Qr.rd1 (C := tab (fun j => str (pw seed leaf l i j)) 15) (j := i * 1)); exact rfl; exact RH.row (by (repeat (first | with_reducible exact In.here | with_reducible apply In.there))); (rw [Nat.mul_one]; exact (tab_get hlt).trans (by rw [pw_here])))))
      | ((with_reducible apply J.cellR); exact rfl; exact rfl; exact rfl; (repeat (first | with_reducible exact Upd.here | with_reducible apply Upd.there)); (rw [tab_length]; omega); exact pw_s seed leaf l hlt hd)
      | ((with_reducible apply J.givesR (walk_ (bgn seed leaf i) d)); exact rfl; exact rfl; focus (exact RH.of ⟨hd3, by rw [show (bgn seed leaf i).length = 8 from short_length _]; omega⟩))
      | refine J.one ?_
      | refine J.loudS ?_
      | (refine J.loudQ ?_; intro _ _)
      | (refine J.loudB ?_; intro _)
      | (with_reducible apply J.list)
      | ((with_reducible apply J.gsplit); exact rfl; exact rfl)
      | ((with_reducible first | apply J.cond | apply JC.cond); exact rfl)
      | (intro h; exfalso; (first | (simp at h; done) | (simp at h; omega) | omega))
      | (intro h; (try simp only [decide_eq_true_eq, decide_eq_false_iff_not, beq_iff_eq, beq_eq_false_iff_ne, Bool.not_eq_true', Bool.not_eq_false', bne_iff_ne, bne_eq_false_iff_eq, ne_eq, ge_iff_le, gt_iff_lt] at h))
      | (with_reducible apply J.gave')
      | ((with_reducible apply J.kept'); rotate_left; (repeat (first | (with_reducible exact Outs.nil) | ((with_reducible apply Outs.cons); (repeat (first | with_reducible exact Out.here | with_reducible apply Out.there))))))
    all_goals
      first
      | (apply J.againI (s := i) (s' := (i + 1)); (focus (omega)); (focus ((try dsimp only); (show i + 1 ≤ 15; omega))); (focus (((try dsimp only); repeat (first | exact sub.nil _ | (refine sub.consE rfl ?_ ?_; (first | with_reducible rfl | ((focus (congr 1; omega))) | rfl)))))); ((try dsimp only); (repeat (first | (with_reducible exact Outs.nil) | ((with_reducible apply Outs.cons); (repeat (first | with_reducible exact Out.here | with_reducible apply Out.there)))))))
      | (trace_state; fail)
  · obtain rfl : i = 15 := by omega
    rw [pw_15]
    repeat' first
      | refine J.one ?_
      | refine J.loudS ?_
      | (refine J.loudQ ?_; intro _ _)
      | (refine J.loudB ?_; intro _)
      | (with_reducible apply J.list)
      | ((with_reducible apply J.gsplit); exact rfl; exact rfl)
      | ((with_reducible first | apply J.cond | apply JC.cond); exact rfl)
      | (intro h; exfalso; (first | (simp at h; done) | (simp at h; omega) | omega))
      | (intro h; (try simp only [decide_eq_true_eq, decide_eq_false_iff_not, beq_iff_eq, beq_eq_false_iff_ne, Bool.not_eq_true', Bool.not_eq_false', bne_iff_ne, bne_eq_false_iff_eq, ne_eq, ge_iff_le, gt_iff_lt] at h))
      | (with_reducible apply J.gave')
      | ((with_reducible apply J.kept'); rotate_left; (repeat (first | (with_reducible exact Outs.nil) | ((with_reducible apply Outs.cons); (repeat (first | with_reducible exact Out.here | with_reducible apply Out.there))))))
    all_goals
      first
      | ((with_reducible apply J.freshRow); (repeat (first | with_reducible exact Out.here | with_reducible apply Out.there)); exact rfl; exact rfl; exact rfl)
      | (trace_state; fail)
def xorI (k : IntKind) (x y : Int) : Int := k.wrap ((BitVec.ofInt k.bits x ^^^ BitVec.ofInt k.bits y).toNat : Int)
theorem Qv.xorC {P : Program} {m : Nat} {l : TL} {T T' : Nat} {x y : Operand} {k : IntKind} {e f z : Int} (hx : ev l x = some (.int k e)) (hy : ev l y = some (.int k f)) (hz : xorI k e f = z) : Qv P m l (.binOp .xor T x y T') (.int k z) := fun a w _ _ _ _ s => by
  subst hz
  simp [execOp, s.ev hx, s.ev hy, eqGuard, binOp, Op.intBits, xorI]
theorem path_1 (seed : List UInt8) (w : World) (hw : seed.length ≤ 1000) : CSpec Try.prog 105 [str seed, .int .i64 1] [] w (Fresh 9 1 3 (scs (path1 seed)) []) := by
  refine spec_own0 Try.func105 rfl Try.ntmps105 rfl (l0 := [(0, str seed), (1, .int .i64 1)]) rfl ?_
  refine J.nilRow 9 1 ?_
  repeat' first
    | (with_reducible refine J.rounds 4 ?_)
    | (with_reducible apply J.round)
    | (refine J.qv ?_; (with_reducible apply exq); focus (first
      | ((with_reducible apply Qv.xorC); exact rfl; exact rfl; exact (show xorI .i64 1 1 = 0 by decide))
      | ((with_reducible apply Qv.xorC); exact rfl; exact rfl; exact (show xorI .i64 0 1 = 1 by decide))
      | ((with_reducible apply Qv.shr); exact rfl; exact rfl; decide; exact (show _ = (0 : Int) by decide))))
    | (refine J.qr ?_; (with_reducible apply exq); focus (first
      | ((with_reducible apply Qr.indexRd (len := 8) (k := 0) (C := scs (rowL seed))); exact rfl; exact rfl; exact rfl; decide; exact RH.row (by (repeat (first | with_reducible exact In.here | with_reducible apply In.there))); (exact (show 0 < 8 by decide)))
      | ((with_reducible apply Qr.indexRd (len := 4) (k := 1) (C := scs (abv (rowL seed)))); exact rfl; exact rfl; exact rfl; decide; exact RH.row (by (repeat (first | with_reducible exact In.here | with_reducible apply In.there))); (exact (show 1 < 4 by decide)))
      | ((with_reducible apply Qr.indexRd (len := 2) (k := 1) (C := scs (abv (abv (rowL seed))))); exact rfl; exact rfl; exact rfl; decide; exact RH.row (by (repeat (first | with_reducible exact In.here | with_reducible apply In.there))); (exact (show 1 < 2 by decide)))
      | ((with_reducible apply Qr.rd1 (C := scs (rowL seed)) (j := 0 * 1)); exact rfl; exact RH.row (by (repeat (first | with_reducible exact In.here | with_reducible apply In.there))); exact (show (scs (rowL seed))[0]? = some (str (pubF seed 0)) from rfl))
      | ((with_reducible apply Qr.rd1 (C := scs (abv (rowL seed))) (j := 1 * 1)); exact rfl; exact RH.row (by (repeat (first | with_reducible exact In.here | with_reducible apply In.there))); exact (show (scs (abv (rowL seed)))[1]? = some (str (r2F2 seed)) from rfl))
      | ((with_reducible apply Qr.rd1 (C := scs (abv (abv (rowL seed)))) (j := 1 * 1)); exact rfl; exact RH.row (by (repeat (first | with_reducible exact In.here | with_reducible apply In.there))); exact (show (scs (abv (abv (rowL seed))))[1]? = some (str (r4F2 seed)) from rfl))))
    | ((with_reducible apply J.appendR (news := [_])); exact rfl; exact rfl; (repeat (first | with_reducible exact Out.here | with_reducible apply Out.there)); exact rfl; exact RH.blk0 (by (repeat (first | with_reducible exact In.here | with_reducible apply In.there))); exact rfl; exact rfl; exact rfl; exact rfl; (simp only [maxLen]; omega); omega; intro _ _)
    | ((with_reducible apply J.freshR (row_ seed)); exact rfl; exact rfl; (focus (exact RH.of hw)); intro _ _)
    | ((with_reducible apply J.freshR (above_ _ _ _ (rowL seed) 4)); exact rfl; exact rfl; (focus (exact RH.and (RH.row (by (repeat (first | with_reducible exact In.here | with_reducible apply In.there)))) (RH.of ⟨rfl, rowL_length _, rowL_le _, by decide, by decide⟩))); intro _ _)
    | ((with_reducible apply J.freshR (above_ _ _ _ (abv (rowL seed)) 2)); exact rfl; exact rfl; (focus (exact RH.and (RH.row (by (repeat (first | with_reducible exact In.here | with_reducible apply In.there)))) (RH.of ⟨rfl, abv_length (m := 4) (rowL_length _), fun x hx => Nat.le_of_eq (abv_le hx), by decide, by decide⟩))); intro _ _)
    | ((with_reducible apply J.freshR (above_ _ _ _ (abv (abv (rowL seed))) 1)); exact rfl; exact rfl; (focus (exact RH.and (RH.row (by (repeat (first | with_reducible exact In.here | with_reducible apply In.there)))) (RH.of ⟨rfl, abv_length (m := 2) (abv_length (m := 4) (rowL_length _)), fun x hx => Nat.le_of_eq (abv_le hx), by decide, by decide⟩))); intro _ _)
    | refine J.one ?_
    | refine J.loudS ?_
    | (refine J.loudQ ?_; intro _ _)
    | (refine J.loudB ?_; intro _)
    | (with_reducible apply J.list)
    | ((with_reducible apply J.gsplit); exact rfl; exact rfl)
    | ((with_reducible first | apply J.cond | apply JC.cond); exact rfl)
    | (intro h; exfalso; (first | (revert h; decide) | (simp at h; done)))
    | (intro h; (try simp only [decide_eq_true_eq, decide_eq_false_iff_not, beq_iff_eq, beq_eq_false_iff_ne, Bool.not_eq_true', Bool.not_eq_false', bne_iff_ne, bne_eq_false_iff_eq, ne_eq, ge_iff_le, gt_iff_lt] at h))
    | (with_reducible apply J.gave')
    | ((with_reducible apply J.kept'); rotate_left; (repeat (first | (with_reducible exact Outs.nil) | ((with_reducible apply Outs.cons); (repeat (first | with_reducible exact Out.here | with_reducible apply Out.there))))))
  all_goals first
    | ((with_reducible apply J.freshRow (n := 0 + 1 + 1 + 1)); (repeat (first | with_reducible exact Out.here | with_reducible apply Out.there)); exact rfl; exact rfl; exact rfl)
    | (trace_state; fail)
theorem sign_1 (seed : List UInt8) (ao : Option Addr) (n cap : Nat) (l : List UInt8) (w : World) (hw : Rd w ao (bcs l) ∧ n = l.length ∧ l.length ≤ 1099511627776 ∧ seed.length ≤ 1000) : CSpec Try.prog 71 [.agg #[str seed, .int .i64 1], .slice ao n cap] [] w (Gives (.tuple #[str (sig1 seed l), .agg #[str seed, .int .i64 2], .int .i64 0])) := by
  obtain ⟨hr, rfl, hn, hs⟩ := hw
  refine spec_own0 Try.func71 rfl Try.ntmps71 rfl (l0 := [(0, .agg #[str seed, .int .i64 1]), (1, .slice ao l.length cap)]) rfl ?_
  repeat' first
    | (refine J.qv ?_; (with_reducible apply exq); focus (first
      | ((with_reducible apply Qv.conv); exact rfl; exact (show IntKind.u8.wrap 1 = 1 by decide))))
    | (refine J.qr ?_; (with_reducible apply exq); focus (first
      | ((with_reducible apply Qr.load1); exact rfl; (focus ((repeat (first | with_reducible exact In.here | with_reducible apply In.there)); done)); exact rfl)))
    | (refine J.qo ?_; refine ⟨?_, ?_⟩; focus (first
      | ((with_reducible apply Qr.load1); exact rfl; (focus ((repeat (first | with_reducible exact In.here | with_reducible apply In.there)); done)); exact rfl)))
    | ((with_reducible apply J.appendR (news := scs (path1 seed))); exact rfl; exact rfl; (repeat (first | with_reducible exact Out.here | with_reducible apply Out.there)); exact rfl; exact RH.row (by (repeat (first | with_reducible exact In.here | with_reducible apply In.there))); exact rfl; exact scs_ones _; exact rfl; exact rfl; (simp only [maxLen]; omega); omega; intro qa hqa)
    | ((with_reducible apply J.freshR (sign_o seed 1 (by decide) _ _ _ l)); exact rfl; exact rfl; (focus (exact RH.and (RH.old hr) (RH.of ⟨rfl, hn, hs⟩))); intro _ _)
    | ((with_reducible apply J.freshR (path_1 seed)); exact rfl; exact rfl; (focus (exact RH.of hs)); intro _ _)
    | refine J.one ?_
    | refine J.loudS ?_
    | (refine J.loudQ ?_; intro _ _)
    | (refine J.loudB ?_; intro _)
    | (with_reducible apply J.list)
    | ((with_reducible apply J.draw (id := 6) [0, 1, 0, 4, 0, 31, 0, 64, 0, 256, 1023, 2047, 4095, 0] (.p 0 (.q 1 (.p 2 (.q 3 (.p 4 (.p 6 (.q 7 (.p 8 (.q 9 (.p 13 (.x 5 (.x 10 (.x 11 (.p 12 .nil) .none) .none) .none))))))))))) (by kernel_rfl) ?_ (by kernel_rfl) ?_); (repeat (with_reducible first | exact PanicFree.body | exact PanicFree.np | exact PanicFree.lvS | apply PanicFree.then_ | apply PanicFree.blk)))
    | ((with_reducible apply J.draw (id := 12) [0, 1, 0, 3, 15, 31] (.p 0 (.q 1 (.q 2 (.p 3 (.x 4 (.p 5 .nil) .none))))) (by kernel_rfl) ?_ (by kernel_rfl) ?_); (repeat (with_reducible first | exact PanicFree.body | exact PanicFree.np | exact PanicFree.lvS | apply PanicFree.then_ | apply PanicFree.blk)))
    | ((with_reducible apply J.pl2); exact rfl; (first | exact Gd.none | ((with_reducible apply Gd.on); exact rfl; exact rfl)); (repeat (first | (with_reducible exact PendF.nil) | ((with_reducible apply PendF.keep); exact rfl) | ((with_reducible apply PendF.gone); exact rfl))))
    | ((with_reducible apply J.pl2_off); exact rfl; ((with_reducible apply Gd.off); exact rfl; exact rfl; exact rfl); exact rfl; (repeat (first | (with_reducible exact PendF.nil) | ((with_reducible apply PendF.keep); exact rfl) | ((with_reducible apply PendF.gone); exact rfl))))
    | ((with_reducible apply J.pl2_off_none); exact rfl; ((with_reducible apply Gd.off); exact rfl; exact rfl; exact rfl); (repeat (first | (with_reducible exact PendF.nil) | ((with_reducible apply PendF.keep); exact rfl) | ((with_reducible apply PendF.gone); exact rfl))))
    | ((with_reducible first | apply J.psplit0 | apply J.psplit1 | apply J.psplit2); exact rfl; exact rfl; exact rfl)
    | (with_reducible exact J.pl_none)
    | ((with_reducible apply J.gsplit); exact rfl; exact rfl)
    | ((with_reducible first | apply J.cond | apply JC.cond); exact rfl)
    | (intro h; exfalso; (first | (revert h; decide) | (simp at h; done)))
    | (intro h; (try simp only [decide_eq_true_eq, decide_eq_false_iff_not, beq_iff_eq, beq_eq_false_iff_ne, Bool.not_eq_true', Bool.not_eq_false', bne_iff_ne, bne_eq_false_iff_eq, ne_eq, ge_iff_le, gt_iff_lt] at h))
    | (with_reducible apply J.gave')
    | ((with_reducible apply J.kept'); rotate_left; (repeat (first | (with_reducible exact Outs.nil) | ((with_reducible apply Outs.cons); (repeat (first | with_reducible exact Out.here | with_reducible apply Out.there))))))
  rename_i b2 b5 _ b7 q15 _ q3 _
  obtain ⟨AL, hA⟩ : ∃ AL, AL = partL seed 1 l ++ path1 seed := ⟨_, rfl⟩
  have hA8 : ∀ x, x ∈ AL → x.length = 8 := hA ▸ all_len seed l
  have hAc : AL.length = 18 := hA ▸ all_count seed l
  rw [← scs_append, ← hA]
  apply J.reR (E := 9) (v := .slice qa.1 (15 + 3) qa.2) (n := 15 + 3) (C := scs AL) (v' := .slice qa.1 18 qa.2) (n' := 18) (C' := scs AL)
  · (repeat (first | with_reducible exact Upd.here | with_reducible apply Upd.there))
  · rfl
  · rfl
  · rfl
  apply J.blkRow (b := b7) (n := 1) (sz := 1) (C' := bcs ([1] ++ (AL.take 0).flatten))
  · (repeat (first | with_reducible exact Out.here | with_reducible apply Out.there))
  · rfl
  · rfl
  · decide
  apply J.reR (E := 5) (v := .slice (some ⟨b7, 0, none⟩) 1 1) (n := 1) (C := bcs ([1] ++ (AL.take 0).flatten)) (v' := .slice (some ⟨b7, 0, none⟩) (1 + 8 * 0) 1) (n' := 1 + 8 * 0) (C' := bcs ([1] ++ (AL.take 0).flatten))
  · (repeat (first | with_reducible exact Upd.here | with_reducible apply Upd.there))
  · rfl
  · rfl
  · rfl
  apply J.loopI (σ := (Nat × (Option Addr × Nat))) (I := fun s => (s.1 ≤ 18)) (L := fun s => [(2, .pointer (some ⟨b2, 0, none⟩)), (5, .pointer (some ⟨b5, 0, none⟩)), (6, .int .i64 0), (40, .slice qa.1 18 qa.2), (41, .int .i64 18), (42, .int .i64 (s.1 : Int)), (7, .slice s.2.1 (1 + 8 * s.1) s.2.2)]) (HH := fun s => [row (.slice qa.1 18 qa.2) 9 1 18 (scs AL), row (.slice s.2.1 (1 + 8 * s.1) s.2.2) 5 1 (1 + 8 * s.1) (bcs ([1] ++ (AL.take s.1).flatten)), blk b2 [str seed, .int .i64 1] 146, blk b5 [.string ⟨#[]⟩, .int .i64 0] 146]) (m := fun s => 18 - s.1) (s0 := (0, (some ⟨b7, 0, none⟩, 1)))
  · ((try dsimp only); (exact Nat.zero_le _))
  · ((try dsimp only); repeat (first | exact sub.nil _ | (refine sub.consE rfl ?_ ?_; (first | with_reducible rfl | (rfl) | rfl))))
  · ((try dsimp only); (repeat (first | (with_reducible exact Outs.nil) | ((with_reducible apply Outs.cons); (repeat (first | with_reducible exact Out.here | with_reducible apply Out.there))))))
  rintro ⟨i, qb⟩ hI
  try dsimp only at hI ⊢
  rcases Nat.lt_or_ge i 18 with hlt | hge
  · obtain ⟨x, hx⟩ : ∃ x, AL[i]? = some x := ⟨_, List.getElem?_eq_getElem (by omega)⟩
    have hx8 : x.length = 8 := hA8 x (List.mem_of_getElem? hx)
    have hts := take_snoc hx
    repeat' first
      | (refine J.qr ?_; (with_reducible apply exq); focus (first
        | ((with_reducible apply Qr.indexRd (k := i) (C := scs AL)); exact rfl; exact rfl; exact rfl; omega; exact RH.row (by (repeat (first | with_reducible exact In.here | with_reducible apply In.there))); (rw [scs_length]; omega))
        | ((with_reducible apply Qr.rd1 (C := scs AL) (j := i * 1)); exact rfl; exact RH.row (by (repeat (first | with_reducible exact In.here | with_reducible apply In.there))); (rw [Nat.mul_one]; exact scs_get hx))))
      | (refine J.qo ?_; refine ⟨?_, ?_⟩; focus (first
        | ((with_reducible apply Qr.indexRd (k := i) (C := scs AL)); exact rfl; exact rfl; exact rfl; omega; exact RH.row (by (repeat (first | with_reducible exact In.here | with_reducible apply In.there))); (rw [scs_length]; omega))
        | ((with_reducible apply Qr.rd1 (C := scs AL) (j := i * 1)); exact rfl; exact RH.row (by (repeat (first | with_reducible exact In.here | with_reducible apply In.there))); (rw [Nat.mul_one]; exact scs_get hx))))
      | ((with_reducible apply J.appendStr (bs := x)); exact rfl; exact rfl; (repeat (first | with_reducible exact Out.here | with_reducible apply Out.there)); exact rfl; exact rfl; omega; (simp only [maxLen]; omega); omega; intro q9 hq9)
      | refine J.one ?_
      | refine J.loudS ?_
      | (refine J.loudQ ?_; intro _ _)
      | (refine J.loudB ?_; intro _)
      | (with_reducible apply J.list)
      | ((with_reducible apply J.draw (id := 6) [0, 1, 0, 4, 0, 31, 0, 64, 0, 256, 1023, 2047, 4095, 0] (.p 0 (.q 1 (.p 2 (.q 3 (.p 4 (.p 6 (.q 7 (.p 8 (.q 9 (.p 13 (.x 5 (.x 10 (.x 11 (.p 12 .nil) .none) .none) .none))))))))))) (by kernel_rfl) ?_ (by kernel_rfl) ?_); (repeat (with_reducible first | exact PanicFree.body | exact PanicFree.np | exact PanicFree.lvS | apply PanicFree.then_ | apply PanicFree.blk)))
      | ((with_reducible apply J.draw (id := 12) [0, 1, 0, 3, 15, 31] (.p 0 (.q 1 (.q 2 (.p 3 (.x 4 (.p 5 .nil) .none))))) (by kernel_rfl) ?_ (by kernel_rfl) ?_); (repeat (with_reducible first | exact PanicFree.body | exact PanicFree.np | exact PanicFree.lvS | apply PanicFree.then_ | apply PanicFree.blk)))
      | ((with_reducible apply J.pl2); exact rfl; (first | exact Gd.none | ((with_reducible apply Gd.on); exact rfl; exact rfl)); (repeat (first | (with_reducible exact PendF.nil) | ((with_reducible apply PendF.keep); exact rfl) | ((with_reducible apply PendF.gone); exact rfl))))
      | ((with_reducible apply J.pl2_off); exact rfl; ((with_reducible apply Gd.off); exact rfl; exact rfl; exact rfl); exact rfl; (repeat (first | (with_reducible exact PendF.nil) | ((with_reducible apply PendF.keep); exact rfl) | ((with_reducible apply PendF.gone); exact rfl))))
      | ((with_reducible apply J.pl2_off_none); exact rfl; ((with_reducible apply Gd.off); exact rfl; exact rfl; exact rfl); (repeat (first | (with_reducible exact PendF.nil) | ((with_reducible apply PendF.keep); exact rfl) | ((with_reducible apply PendF.gone); exact rfl))))
      | ((with_reducible first | apply J.psplit0 | apply J.psplit1 | apply J.psplit2); exact rfl; exact rfl; exact rfl)
      | (with_reducible exact J.pl_none)
      | ((with_reducible apply J.gsplit); exact rfl; exact rfl)
      | ((with_reducible first | apply J.cond | apply JC.cond); exact rfl)
      | (intro h; exfalso; (first | (simp at h; done) | (simp at h; omega) | omega))
      | (intro h; (try simp only [decide_eq_true_eq, decide_eq_false_iff_not, beq_iff_eq, beq_eq_false_iff_ne, Bool.not_eq_true', Bool.not_eq_false', bne_iff_ne, bne_eq_false_iff_eq, ne_eq, ge_iff_le, gt_iff_lt] at h))
      | (with_reducible apply J.gave')
      | ((with_reducible apply J.kept'); rotate_left; (repeat (first | (with_reducible exact Outs.nil) | ((with_reducible apply Outs.cons); (repeat (first | with_reducible exact Out.here | with_reducible apply Out.there))))))
    all_goals first
      | (apply J.reR (E := 5) (v := .slice q9.1 (1 + 8 * i + x.length) q9.2) (n := 1 + 8 * i + x.length) (C := bcs ([1] ++ (AL.take i).flatten) ++ bcs x) (v' := .slice q9.1 (1 + 8 * (i + 1)) q9.2) (n' := 1 + 8 * (i + 1)) (C' := bcs ([1] ++ (AL.take (i + 1)).flatten))
         · (repeat (first | with_reducible exact Upd.here | with_reducible apply Upd.there))
         · (congr 1; omega)
         · omega
         · (rw [hts, List.flatten_append, ← List.append_assoc, ← bcs_append]; simp)
         · (apply J.againI (s := (i, qb)) (s' := (i + 1, q9)); (focus (omega)); (focus ((try dsimp only); (show i + 1 ≤ 18; omega))); (focus (((try dsimp only); repeat (first | exact sub.nil _ | (refine sub.consE rfl ?_ ?_; (first | with_reducible rfl | ((focus (congr 1; omega))) | rfl)))))); ((try dsimp only); (repeat (first | (with_reducible exact Outs.nil) | ((with_reducible apply Outs.cons); (repeat (first | with_reducible exact Out.here | with_reducible apply Out.there))))))))
      | (trace_state; fail)
  · obtain rfl : i = 18 := by omega
    have htk : AL.take 18 = AL := List.take_of_length_le (by omega)
    have hsg : [1] ++ (AL.take 18).flatten = sig1 seed l := by rw [htk, hA]; rfl
    rw [hsg]
    repeat' first
      | (refine J.qv ?_; (with_reducible apply exq); focus (first
        | ((with_reducible apply Qv.add); exact rfl; exact rfl; exact (show IntKind.i64.wrap (1 + 1) = 2 by decide))))
      | (refine J.qr ?_; (with_reducible apply exq); focus (first
        | ((with_reducible apply Qr.loadFull); exact rfl; (focus ((repeat (first | with_reducible exact In.here | with_reducible apply In.there)); done)); exact rfl)
        | ((with_reducible apply Qr.load1); exact rfl; (focus ((repeat (first | with_reducible exact In.here | with_reducible apply In.there)); done)); exact rfl)
        | ((with_reducible apply Qr.toStr (bs := sig1 seed l)); exact rfl; (exact RH.row (by (repeat (first | with_reducible exact In.here | with_reducible apply In.there)))); (rw [sig1_length]))))
      | (refine J.qo ?_; refine ⟨?_, ?_⟩; focus (first
        | ((with_reducible apply Qr.loadFull); exact rfl; (focus ((repeat (first | with_reducible exact In.here | with_reducible apply In.there)); done)); exact rfl)
        | ((with_reducible apply Qr.load1); exact rfl; (focus ((repeat (first | with_reducible exact In.here | with_reducible apply In.there)); done)); exact rfl)
        | ((with_reducible apply Qr.toStr (bs := sig1 seed l)); exact rfl; (exact RH.row (by (repeat (first | with_reducible exact In.here | with_reducible apply In.there)))); (rw [sig1_length]))))
      | ((with_reducible apply J.store1); exact rfl; exact rfl; exact rfl; (repeat (first | with_reducible exact Upd.here | with_reducible apply Upd.there)); exact (show _ = [str seed, .int .i64 2] from rfl); (show 1 + 1 ≤ 2; decide))
      | ((with_reducible apply J.storeFull); exact rfl; exact rfl; (repeat (first | with_reducible exact Upd.here | with_reducible apply Upd.there)); exact rfl; exact rfl; exact rfl)
      | refine J.one ?_
      | refine J.loudS ?_
      | (refine J.loudQ ?_; intro _ _)
      | (refine J.loudB ?_; intro _)
      | (with_reducible apply J.list)
      | ((with_reducible apply J.draw (id := 6) [0, 1, 0, 4, 0, 31, 0, 64, 0, 256, 1023, 2047, 4095, 0] (.p 0 (.q 1 (.p 2 (.q 3 (.p 4 (.p 6 (.q 7 (.p 8 (.q 9 (.p 13 (.x 5 (.x 10 (.x 11 (.p 12 .nil) .none) .none) .none))))))))))) (by kernel_rfl) ?_ (by kernel_rfl) ?_); (repeat (with_reducible first | exact PanicFree.body | exact PanicFree.np | exact PanicFree.lvS | apply PanicFree.then_ | apply PanicFree.blk)))
      | ((with_reducible apply J.draw (id := 12) [0, 1, 0, 3, 15, 31] (.p 0 (.q 1 (.q 2 (.p 3 (.x 4 (.p 5 .nil) .none))))) (by kernel_rfl) ?_ (by kernel_rfl) ?_); (repeat (with_reducible first | exact PanicFree.body | exact PanicFree.np | exact PanicFree.lvS | apply PanicFree.then_ | apply PanicFree.blk)))
      | ((with_reducible apply J.pl2); exact rfl; (first | exact Gd.none | ((with_reducible apply Gd.on); exact rfl; exact rfl)); (repeat (first | (with_reducible exact PendF.nil) | ((with_reducible apply PendF.keep); exact rfl) | ((with_reducible apply PendF.gone); exact rfl))))
      | ((with_reducible apply J.pl2_off); exact rfl; ((with_reducible apply Gd.off); exact rfl; exact rfl; exact rfl); exact rfl; (repeat (first | (with_reducible exact PendF.nil) | ((with_reducible apply PendF.keep); exact rfl) | ((with_reducible apply PendF.gone); exact rfl))))
      | ((with_reducible apply J.pl2_off_none); exact rfl; ((with_reducible apply Gd.off); exact rfl; exact rfl; exact rfl); (repeat (first | (with_reducible exact PendF.nil) | ((with_reducible apply PendF.keep); exact rfl) | ((with_reducible apply PendF.gone); exact rfl))))
      | ((with_reducible first | apply J.psplit0 | apply J.psplit1 | apply J.psplit2); exact rfl; exact rfl; exact rfl)
      | (with_reducible exact J.pl_none)
      | ((with_reducible apply J.gsplit); exact rfl; exact rfl)
      | ((with_reducible first | apply J.cond | apply JC.cond); exact rfl)
      | (intro h; exfalso; (first | (simp at h; done) | (simp at h; omega) | omega))
      | (intro h; (try simp only [decide_eq_true_eq, decide_eq_false_iff_not, beq_iff_eq, beq_eq_false_iff_ne, Bool.not_eq_true', Bool.not_eq_false', bne_iff_ne, bne_eq_false_iff_eq, ne_eq, ge_iff_le, gt_iff_lt] at h))
      | (with_reducible apply J.gave')
      | ((with_reducible apply J.kept'); rotate_left; (repeat (first | (with_reducible exact Outs.nil) | ((with_reducible apply Outs.cons); (repeat (first | with_reducible exact Out.here | with_reducible apply Out.there))))))
    all_goals first
      | rfl
      | (trace_state; fail)
end Go.Proofs.Ytfcaeifpclpnoaa.Sgn
