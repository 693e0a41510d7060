/-
  The law ChainWaits. No conditions.
-/
import Derived.Test.YtljbedladifgmaaGreatQSty
import Derived.Test.YtljbedladifgmaaGreatQNx
import Derived.Test.YtljbedladifgmaaGreatQCut
namespace Go.Proofs.YtljbedladifgmaaGreat.Wai
open Go Go.RowKit Eng
set_option linter.unusedVariables false
set_option maxRecDepth 100000
set_option linter.unusedSimpArgs false
open Wide Purse Tx Sha Ss Esc Vau Lck Do Prep Ful Doo Tri App Inn Low Gene Alv Kee Txl Cht Chn Chm Chw Chi Chx Civ Ali Sty Nx Deal Mss Ots Hash Bytes
set_option maxHeartbeats 1000000
def invT (t : Tx) : List Value := invc t.us t.rt t.ro t.se t.re t.to t.id
theorem txc_inv {T : List Tx} {i : Nat} (h : i < T.length) : ((txc T).drop (i * 25 + 8)).take 7 = invT (T.getD i tx0) := by
  have h1 := txc_at h
  have h2 : ((((txc T).drop (i * 25)).take 25).drop 8).take 7 = ((txc T).drop (i * 25 + 8)).take 7 := by
    rw [List.drop_take, List.drop_drop, List.take_take]
    congr 1
  rw [← h2, h1]
  rfl
theorem txc_ki {T : List Tx} {i : Nat} (h : i < T.length) : (txc T)[i * 25 + 2]? = some (.int .i64 (T.getD i tx0).ki) := (txc_get h (by decide)).trans rfl
theorem key_T (t : Tx) (w : World) (hw : True) : CSpec Tryz.prog 21 [.agg (invT t).toArray] [] w (Gives (str (keyT t))) := key_ _ _ _ _ _ _ _ w hw
theorem invT_len (t : Tx) : (invT t).length = 7 := rfl
noncomputable def anyN (P : List Tx) (a kd : Int) (key : List UInt8) : Nat → Bool
  | 0 => false
  | n + 1 => anyN P a kd key n || pW P a kd key n
theorem anyN_iff {P : List Tx} {a kd : Int} {key : List UInt8} : ∀ {n : Nat}, anyN P a kd key n = true ↔ ∃ j, j < n ∧ pW P a kd key j = true
  | 0 => by simp [anyN]
  | n + 1 => by
    simp only [anyN, Bool.or_eq_true, anyN_iff (n := n)]
    constructor
    · rintro (⟨j, h1, h2⟩ | h)
      · exact ⟨j, by omega, h2⟩
      · exact ⟨n, by omega, h⟩
    · rintro ⟨j, h1, h2⟩
      rcases Nat.lt_or_ge j n with h3 | h3
      · exact .inl ⟨j, h3, h2⟩
      · obtain rfl : j = n := by omega
        exact .inr h2
theorem anyN_waits (P : List Tx) (a kd : Int) (key : List UInt8) : waitsB P a kd key = (!decide (key = []) && anyN P a kd key P.length) := by
  unfold waitsB
  congr 1
  rw [Bool.eq_iff_iff, decide_eq_true_iff, anyN_iff]
  rcases findI_or (p := pW P a kd key) (N := P.length) with ⟨h1, h2⟩ | ⟨i, h1, h2, h3, h4⟩
  · rw [h1]
    constructor
    · intro h; omega
    · rintro ⟨j, hj, h⟩
      rw [h2 j hj] at h
      cases h
  · rw [h2]
    exact ⟨fun _ => ⟨i, h1, h3⟩, fun _ => by omega⟩
def offE (E : List Ev) (fr : Int) : Nat := (imin (imax fr 0) (E.length : Int)).toNat
theorem fromE_get {E : List Ev} {fr : Int} {n : Nat} : (fromE E fr).getD n ev0 = E.getD (offE E fr + n) ev0 := by
  unfold fromE offE
  rw [List.getD_eq_getElem?_getD, List.getElem?_drop, ← List.getD_eq_getElem?_getD]
theorem waits (ao : Option Addr) (cap : Nat) (T : List Tx) (a kd at_ fr : Int) (w : World) (hw : Rd w ao (txc T) ∧ TsIn T ∧ T.length ≤ 140737488355328) : CSpec Tryz.prog 5 [.slice ao T.length cap, .int .i64 a, .int .i64 kd, .int .i64 at_, .int .i64 fr] [] w (Gives (.bool true)) := by
  obtain ⟨hr, hT, hm⟩ := hw
  have hm9 : T.length ≤ 9223372036854775807 := by omega
  have hao : 0 < T.length → ao.isSome = true := txs_some hr
  refine spec_own0 Tryz.func5 rfl Tryz.ntmps5 rfl (l0 := [(0, .slice ao T.length cap), (1, .int .i64 a), (2, .int .i64 kd), (3, .int .i64 at_), (4, .int .i64 fr)]) rfl ?_
  repeat' first
    | ((with_reducible apply J.givesW (alive13)); exact rfl; exact rfl)
    | ((with_reducible apply J.newE (new_ _ _)); exact rfl; exact rfl; intro b9)
    | refine J.one ?_
    | refine J.loudS ?_
    | (refine J.loudQ ?_; intro _ _)
    | (refine J.loudB ?_; intro _)
    | (with_reducible apply J.list)
    | ((with_reducible apply J.draw (id := 27) [0, 0, 3, 7, 0, 0, 32, 0, 224, 0, 992, 2032, 4080, 8191] (.p 0 (.p 1 (.p 2 (.q 3 (.p 4 (.p 5 (.p 6 (.p 7 (.p 8 (.p 9 (.p 10 (.p 11 (.q 12 (.p 13 .nil)))))))))))))) (by kernel_rfl) ?_ (by kernel_rfl) ?_); (repeat (with_reducible first | exact PanicFree.body | exact PanicFree.np | exact PanicFree.lvS | apply PanicFree.then_ | apply PanicFree.blk)))
    | ((with_reducible apply J.pl2); exact rfl; (first | exact Gd.none | ((with_reducible apply Gd.on); exact rfl; exact rfl)); (repeat (first | (with_reducible exact PendF.nil) | ((with_reducible apply PendF.keep); exact rfl) | ((with_reducible apply PendF.gone); exact rfl))))
    | ((with_reducible apply J.pl2_off); exact rfl; ((with_reducible apply Gd.off); exact rfl; exact rfl; exact rfl); exact rfl; (repeat (first | (with_reducible exact PendF.nil) | ((with_reducible apply PendF.keep); exact rfl) | ((with_reducible apply PendF.gone); exact rfl))))
    | ((with_reducible apply J.pl2_off_none); exact rfl; ((with_reducible apply Gd.off); exact rfl; exact rfl; exact rfl); (repeat (first | (with_reducible exact PendF.nil) | ((with_reducible apply PendF.keep); exact rfl) | ((with_reducible apply PendF.gone); exact rfl))))
    | ((with_reducible first | apply J.psplit0 | apply J.psplit1 | apply J.psplit2); exact rfl; exact rfl; exact rfl)
    | (with_reducible exact J.pl_none)
    | ((with_reducible apply J.gsplit); exact rfl; exact rfl)
    | ((with_reducible first | apply J.cond | apply JC.cond); exact rfl)
    | (intro h; exfalso; (first | (simp at h; done) | (simp at h; omega) | omega))
    | (intro h; (try simp only [decide_eq_true_eq, decide_eq_false_iff_not, beq_iff_eq, beq_eq_false_iff_ne, Bool.not_eq_true', Bool.not_eq_false', bne_iff_ne, bne_eq_false_iff_eq, ne_eq, ge_iff_le, gt_iff_lt] at h))
    | (with_reducible apply J.gave')
    | ((with_reducible apply J.kept'); rotate_left; (repeat (first | (with_reducible exact Outs.nil) | ((with_reducible apply Outs.cons); (repeat (first | with_reducible exact Out.here | with_reducible apply Out.there))))))
  apply J.loopI (σ := Nat × CS) (I := fun x => x.1 ≤ T.length ∧ x.1 ≤ 20 ∧ CI x.2 (2 * x.1)) (L := fun x => [(0, .slice ao T.length cap), (3, .int .i64 at_), (1, .int .i64 a), (2, .int .i64 kd), (4, .int .i64 fr), (11, .pointer (some ⟨b9, 0, none⟩)), (12, .int .i64 (x.1 : Int))]) (HH := fun x => [chn b9 x.2]) (m := fun x => T.length - x.1) (s0 := (0, CS.new 1 5))
  · ((try dsimp only); (exact ⟨Nat.zero_le _, Nat.zero_le _, CI.new 1 5⟩))
  · ((try dsimp only); repeat (first | exact sub.nil _ | (refine sub.consE rfl ?_ ?_; (first | with_reducible rfl | (fail) | rfl))))
  · ((try dsimp only); (repeat (first | (with_reducible exact Outs.nil) | ((with_reducible apply Outs.cons); (repeat (first | with_reducible exact Out.here | with_reducible apply Out.there))))))
  rintro ⟨i, k⟩ ⟨hi, hi2, hc⟩
  try dsimp only at *
  have hcP := hc.P
  have hcE := hc.E
  have hwt := fun key => anyN_waits k.P a kd key
  have him := im_b fr k.E.length
  have hof : (offE k.E fr : Int) = imin (imax fr 0) (k.E.length : Int) := by unfold offE; omega
  have hfl : ((fromE k.E fr).length : Int) = (k.E.length : Int) - imin (imax fr 0) (k.E.length : Int) := by rw [fromE_length]; omega
  repeat' first
    | ((with_reducible apply J.cutS (id := 11) (α := List UInt8) (p := fun x => True) (L := fun x => [(1, .int .i64 a), (2, .int .i64 kd), (4, .int .i64 fr), (11, .pointer (some ⟨b9, 0, none⟩)), (13, str x)]) (HH := fun x => [chn b9 k])); rotate_left; intro key _; (try dsimp only))
    | (refine J.qv ?_; (with_reducible apply exq); focus (first
      | ((with_reducible apply Qv.indexSrcs (k := atI at_ T.length)); exact rfl; exact rfl; exact Int.toNat_natCast _; (have h5 := atI_lt at_ T.length (by omega); constructor <;> omega); exact hao (by omega))
      | ((with_reducible apply Qv.indexSrcs (k := i)); exact rfl; exact rfl; (focus omega); (focus omega); exact hao (by omega))
      | ((with_reducible apply Qv.fieldAdd); exact rfl)
      | ((with_reducible apply Qv.rem); exact rfl; exact rfl; omega; exact atI_eq at_ T.length (by omega))
      | ((with_reducible apply Qv.remP); exact rfl; exact rfl; decide; omega)
      | ((with_reducible apply Qv.rem); exact rfl; exact rfl; omega; exact rfl)
      | ((with_reducible apply Qv.add); exact rfl; exact rfl; exact wr64 (by have h5 := tmn_b at_ T.length (by omega); omega) (by have h5 := tmn_b at_ T.length (by omega); omega) rfl)))
    | (refine J.qr ?_; (with_reducible apply exq); focus (first
      | ((with_reducible apply Qr.rdN (C := txc T) (j := i * 25) (cs := (T.getD i tx0).cells)); exact rfl; exact RH.old hr; exact txc_at (by omega); exact tx_len _)
      | ((with_reducible apply Qr.rdN (C := txc T) (j := atI at_ T.length * 25 + 8) (cs := invT (T.getD (atI at_ T.length) tx0))); exact rfl; exact RH.old hr; exact txc_inv (atI_lt _ _ (by omega)); exact invT_len _)))
    | (refine J.qo ?_; refine ⟨?_, ?_⟩; focus (first
      | ((with_reducible apply Qr.rdN (C := txc T) (j := i * 25) (cs := (T.getD i tx0).cells)); exact rfl; exact RH.old hr; exact txc_at (by omega); exact tx_len _)
      | ((with_reducible apply Qr.rdN (C := txc T) (j := atI at_ T.length * 25 + 8) (cs := invT (T.getD (atI at_ T.length) tx0))); exact rfl; exact RH.old hr; exact txc_inv (atI_lt _ _ (by omega)); exact invT_len _)))
    | ((with_reducible apply J.chE (fun w h => submit_ _ k (T.getD i tx0) w h)); exact rfl; exact rfl; (repeat (first | (with_reducible exact Outs.nil) | ((with_reducible apply Outs.cons); (repeat (first | with_reducible exact Out.here | with_reducible apply Out.there))))); exact RH.of ⟨hc.cb (by omega), hT.get _⟩)
    | ((with_reducible apply J.chE (fun w h => include_ _ (subC k (T.getD i tx0)) (i : Int) w h)); exact rfl; exact rfl; (repeat (first | (with_reducible exact Outs.nil) | ((with_reducible apply Outs.cons); (repeat (first | with_reducible exact Out.here | with_reducible apply Out.there))))); exact RH.of ((hc.sub (hT.get _)).cb (by omega)))
    | ((with_reducible apply J.givesR (key_T _)); exact rfl; exact rfl; (focus (exact RH.of trivial)))
    | ((with_reducible apply J.freshR (pool_ _ k)); exact rfl; exact rfl; (exact RH.and (RH.chn (by (repeat (first | with_reducible exact In.here | with_reducible apply In.there)))) (RH.of (by have := hc.P; omega))); intro u9 hu9)
    | ((with_reducible apply J.freshR (evs0 _ k)); exact rfl; exact rfl; (exact RH.and (RH.chn (by (repeat (first | with_reducible exact In.here | with_reducible apply In.there)))) (RH.of (by have := hc.E; omega))); intro u8 hu8)
    | refine J.one ?_
    | refine J.loudS ?_
    | (refine J.loudQ ?_; intro _ _)
    | (refine J.loudB ?_; intro _)
    | (with_reducible apply J.list)
    | ((with_reducible apply J.draw (id := 27) [0, 0, 3, 7, 0, 0, 32, 0, 224, 0, 992, 2032, 4080, 8191] (.p 0 (.p 1 (.p 2 (.q 3 (.p 4 (.p 5 (.p 6 (.p 7 (.p 8 (.p 9 (.p 10 (.p 11 (.q 12 (.p 13 .nil)))))))))))))) (by kernel_rfl) ?_ (by kernel_rfl) ?_); (repeat (with_reducible first | exact PanicFree.body | exact PanicFree.np | exact PanicFree.lvS | apply PanicFree.then_ | apply PanicFree.blk)))
    | ((with_reducible apply J.pl2); exact rfl; (first | exact Gd.none | ((with_reducible apply Gd.on); exact rfl; exact rfl)); (repeat (first | (with_reducible exact PendF.nil) | ((with_reducible apply PendF.keep); exact rfl) | ((with_reducible apply PendF.gone); exact rfl))))
    | ((with_reducible apply J.pl2_off); exact rfl; ((with_reducible apply Gd.off); exact rfl; exact rfl; exact rfl); exact rfl; (repeat (first | (with_reducible exact PendF.nil) | ((with_reducible apply PendF.keep); exact rfl) | ((with_reducible apply PendF.gone); exact rfl))))
    | ((with_reducible apply J.pl2_off_none); exact rfl; ((with_reducible apply Gd.off); exact rfl; exact rfl; exact rfl); (repeat (first | (with_reducible exact PendF.nil) | ((with_reducible apply PendF.keep); exact rfl) | ((with_reducible apply PendF.gone); exact rfl))))
    | ((with_reducible first | apply J.psplit0 | apply J.psplit1 | apply J.psplit2); exact rfl; exact rfl; exact rfl)
    | (with_reducible exact J.pl_none)
    | ((with_reducible apply J.gsplit); exact rfl; exact rfl)
    | ((with_reducible first | apply J.cond | apply JC.cond); exact rfl)
    | (intro h; exfalso; (first | (simp at h; done) | (simp at h; omega) | omega))
    | (intro h; (try simp only [decide_eq_true_eq, decide_eq_false_iff_not, beq_iff_eq, beq_eq_false_iff_ne, Bool.not_eq_true', Bool.not_eq_false', bne_iff_ne, bne_eq_false_iff_eq, ne_eq, ge_iff_le, gt_iff_lt] at h))
    | (with_reducible apply J.gave')
    | ((with_reducible apply J.kept'); rotate_left; (repeat (first | (with_reducible exact Outs.nil) | ((with_reducible apply Outs.cons); (repeat (first | with_reducible exact Out.here | with_reducible apply Out.there))))))
  all_goals first
    | (apply J.againI (s := (i, k)) (s' := (i + 1, incC (subC k (T.getD i tx0)) (i : Int))); (focus (((try dsimp only) <;> omega))); (focus ((try dsimp only); (exact ⟨by omega, by omega, ((hc.sub (hT.get _)).inc _).more (by omega)⟩))); (focus (((try dsimp only); repeat (first | exact sub.nil _ | (refine sub.consE rfl ?_ ?_; (first | with_reducible rfl | ((focus (congr 1; omega))) | rfl)))))); ((try dsimp only); (repeat (first | (with_reducible exact Outs.nil) | ((with_reducible apply Outs.cons); (repeat (first | with_reducible exact Out.here | with_reducible apply Out.there)))))); done)
    | (apply J.againI (s := (i, k)) (s' := (i + 1, subC k (T.getD i tx0))); (focus (((try dsimp only) <;> omega))); (focus ((try dsimp only); (exact ⟨by omega, by omega, (hc.sub (hT.get _)).more (by omega)⟩))); (focus (((try dsimp only); repeat (first | exact sub.nil _ | (refine sub.consE rfl ?_ ?_; (first | with_reducible rfl | ((focus (congr 1; omega))) | rfl)))))); ((try dsimp only); (repeat (first | (with_reducible exact Outs.nil) | ((with_reducible apply Outs.cons); (repeat (first | with_reducible exact Out.here | with_reducible apply Out.there)))))); done)
    | ((with_reducible apply J.meet (keyT (T.getD (atI at_ T.length) tx0))); (case hs => ((try dsimp only); repeat (first | exact sub.nil _ | (refine sub.consE rfl ?_ ?_; (first | with_reducible rfl | (fail) | rfl))))); (case ho => ((try dsimp only); (repeat (first | (with_reducible exact Outs.nil) | ((with_reducible apply Outs.cons); (repeat (first | with_reducible exact Out.here | with_reducible apply Out.there))))); done)); (case hp => exact trivial))
    | ((with_reducible apply J.meet ([110, 111, 116, 104, 105, 110, 103])); (case hs => ((try dsimp only); repeat (first | exact sub.nil _ | (refine sub.consE rfl ?_ ?_; (first | with_reducible rfl | (fail) | rfl))))); (case ho => ((try dsimp only); (repeat (first | (with_reducible exact Outs.nil) | ((with_reducible apply Outs.cons); (repeat (first | with_reducible exact Out.here | with_reducible apply Out.there))))); done)); (case hp => exact trivial))
    | skip
  all_goals
    replace hwt := hwt key
    (with_reducible apply J.someR (ao := u9.1) (n := k.P.length) (E := 50) (C := txc k.P) (sz := 25) (by (repeat (first | with_reducible exact In.here | with_reducible apply In.there))) (by decide); intro s1)
    apply J.loopI (σ := Nat) (I := fun n => n ≤ k.P.length) (L := fun n => [(1, .int .i64 a), (2, .int .i64 kd), (4, .int .i64 fr), (11, .pointer (some ⟨b9, 0, none⟩)), (13, str key), (15, .slice u9.1 k.P.length u9.2), (16, .slice u8.1 k.E.length u8.2), (17, .bool (anyN k.P a kd key n)), (18, .int .i64 (n : Int))]) (HH := fun n => [row (.slice u9.1 k.P.length u9.2) 50 25 k.P.length (txc k.P), row (.slice u8.1 k.E.length u8.2) 72 27 k.E.length (evc k.E), chn b9 k]) (m := fun n => k.P.length - n) (s0 := 0)
    · ((try dsimp only); (exact Nat.zero_le _))
    · ((try dsimp only); repeat (first | exact sub.nil _ | (refine sub.consE rfl ?_ ?_; (first | with_reducible rfl | (fail) | rfl))))
    · ((try dsimp only); (repeat (first | (with_reducible exact Outs.nil) | ((with_reducible apply Outs.cons); (repeat (first | with_reducible exact Out.here | with_reducible apply Out.there))))))
    rintro n hn
    try dsimp only at hn ⊢
    repeat' first
      | (refine J.qv ?_; (with_reducible apply exq); focus (first
        | ((with_reducible apply Qv.indexSrcs (k := n)); exact rfl; exact rfl; (focus omega); (focus omega); exact s1 (by omega))
        | ((with_reducible apply Qv.fieldAdd); exact rfl)
        | ((with_reducible apply Qv.sub); exact rfl; exact rfl; exact wr64 (by omega) (by omega) rfl)))
      | (refine J.qr ?_; (with_reducible apply exq); focus (first
        | ((with_reducible apply Qr.rd1 (C := txc k.P) (j := n * 25 + 0)); exact rfl; exact RH.row (by (repeat (first | with_reducible exact In.here | with_reducible apply In.there))); exact txc_fr (by omega))
        | ((with_reducible apply Qr.rd1 (C := txc k.P) (j := n * 25 + 2)); exact rfl; exact RH.row (by (repeat (first | with_reducible exact In.here | with_reducible apply In.there))); exact txc_ki (by omega))
        | ((with_reducible apply Qr.rdN (C := txc k.P) (j := n * 25 + 8) (cs := invT (k.P.getD n tx0))); exact rfl; exact RH.row (by (repeat (first | with_reducible exact In.here | with_reducible apply In.there))); exact txc_inv (by omega); exact invT_len _)))
      | (refine J.qo ?_; refine ⟨?_, ?_⟩; focus (first
        | ((with_reducible apply Qr.rd1 (C := txc k.P) (j := n * 25 + 0)); exact rfl; exact RH.row (by (repeat (first | with_reducible exact In.here | with_reducible apply In.there))); exact txc_fr (by omega))
        | ((with_reducible apply Qr.rd1 (C := txc k.P) (j := n * 25 + 2)); exact rfl; exact RH.row (by (repeat (first | with_reducible exact In.here | with_reducible apply In.there))); exact txc_ki (by omega))
        | ((with_reducible apply Qr.rdN (C := txc k.P) (j := n * 25 + 8) (cs := invT (k.P.getD n tx0))); exact rfl; exact RH.row (by (repeat (first | with_reducible exact In.here | with_reducible apply In.there))); exact txc_inv (by omega); exact invT_len _)))
      | ((with_reducible apply J.givesR (key_T _)); exact rfl; exact rfl; (focus (exact RH.of trivial)))
      | ((with_reducible apply J.freshR (events_ _ k fr)); exact rfl; exact rfl; (exact RH.and (RH.chn (by (repeat (first | with_reducible exact In.here | with_reducible apply In.there)))) (RH.of (by have := hc.E; omega))); intro u7 hu7)
      | ((with_reducible apply J.givesR (waits_ b9 k a kd key)); exact rfl; exact rfl; (focus (exact RH.and (RH.chn (by (repeat (first | with_reducible exact In.here | with_reducible apply In.there)))) (RH.of (hc.cb (by omega))))))
      | refine J.one ?_
      | refine J.loudS ?_
      | (refine J.loudQ ?_; intro _ _)
      | (refine J.loudB ?_; intro _)
      | (with_reducible apply J.list)
      | ((with_reducible apply J.draw (id := 27) [0, 0, 3, 7, 0, 0, 32, 0, 224, 0, 992, 2032, 4080, 8191] (.p 0 (.p 1 (.p 2 (.q 3 (.p 4 (.p 5 (.p 6 (.p 7 (.p 8 (.p 9 (.p 10 (.p 11 (.q 12 (.p 13 .nil)))))))))))))) (by kernel_rfl) ?_ (by kernel_rfl) ?_); (repeat (with_reducible first | exact PanicFree.body | exact PanicFree.np | exact PanicFree.lvS | apply PanicFree.then_ | apply PanicFree.blk)))
      | ((with_reducible apply J.pl2); exact rfl; (first | exact Gd.none | ((with_reducible apply Gd.on); exact rfl; exact rfl)); (repeat (first | (with_reducible exact PendF.nil) | ((with_reducible apply PendF.keep); exact rfl) | ((with_reducible apply PendF.gone); exact rfl))))
      | ((with_reducible apply J.pl2_off); exact rfl; ((with_reducible apply Gd.off); exact rfl; exact rfl; exact rfl); exact rfl; (repeat (first | (with_reducible exact PendF.nil) | ((with_reducible apply PendF.keep); exact rfl) | ((with_reducible apply PendF.gone); exact rfl))))
      | ((with_reducible apply J.pl2_off_none); exact rfl; ((with_reducible apply Gd.off); exact rfl; exact rfl; exact rfl); (repeat (first | (with_reducible exact PendF.nil) | ((with_reducible apply PendF.keep); exact rfl) | ((with_reducible apply PendF.gone); exact rfl))))
      | ((with_reducible first | apply J.psplit0 | apply J.psplit1 | apply J.psplit2); exact rfl; exact rfl; exact rfl)
      | (with_reducible exact J.pl_none)
      | ((with_reducible apply J.gsplit); exact rfl; exact rfl)
      | ((with_reducible first | apply J.cond | apply JC.cond); exact rfl)
      | (intro h; exfalso; (first | (simp at h; done) | (simp at h; omega) | (rw [hwt] at h; simp_all; done) | omega))
      | (intro h; (try simp only [decide_eq_true_eq, decide_eq_false_iff_not, beq_iff_eq, beq_eq_false_iff_ne, Bool.not_eq_true', Bool.not_eq_false', bne_iff_ne, bne_eq_false_iff_eq, ne_eq, ge_iff_le, gt_iff_lt] at h))
      | (with_reducible apply J.gave')
      | ((with_reducible apply J.kept'); rotate_left; (repeat (first | (with_reducible exact Outs.nil) | ((with_reducible apply Outs.cons); (repeat (first | with_reducible exact Out.here | with_reducible apply Out.there))))))
    all_goals first
      | (have e9 : anyN k.P a kd key (n + 1) = true := by simp only [anyN]; rw [show anyN k.P a kd key n = true from by assumption]; rfl
         (apply J.againI (s := n) (s' := (n + 1)); (focus (omega)); (focus ((try dsimp only); omega)); (focus (((try dsimp only); repeat (first | exact sub.nil _ | (refine sub.consE rfl ?_ ?_; (first | with_reducible rfl | ((focus (first | (congr 1; omega) | (congr 1; exact e9.symm)))) | rfl)))))); ((try dsimp only); (repeat (first | (with_reducible exact Outs.nil) | ((with_reducible apply Outs.cons); (repeat (first | with_reducible exact Out.here | with_reducible apply Out.there))))))))
      | (have e8 : anyN k.P a kd key n = false := by assumption
         have e9 : anyN k.P a kd key (n + 1) = pW k.P a kd key n := by simp only [anyN]; rw [e8]; rfl
         first
         | (have e7 : pW k.P a kd key n = decide (keyT (k.P.getD n tx0) = key) := by unfold pW; rw [show ((k.P.getD n tx0).fr == a) = true by simpa, show ((k.P.getD n tx0).ki == kd) = true by simpa]; rfl
            (apply J.againI (s := n) (s' := (n + 1)); (focus (omega)); (focus ((try dsimp only); omega)); (focus (((try dsimp only); repeat (first | exact sub.nil _ | (refine sub.consE rfl ?_ ?_; (first | with_reducible rfl | ((focus (first | (congr 1; omega) | (congr 1; exact (e9.trans e7).symm)))) | rfl)))))); ((try dsimp only); (repeat (first | (with_reducible exact Outs.nil) | ((with_reducible apply Outs.cons); (repeat (first | with_reducible exact Out.here | with_reducible apply Out.there))))))))
         | (have e7 : pW k.P a kd key n = false := by unfold pW; rw [show ((k.P.getD n tx0).fr == a) = false by simpa]; rfl
            (apply J.againI (s := n) (s' := (n + 1)); (focus (omega)); (focus ((try dsimp only); omega)); (focus (((try dsimp only); repeat (first | exact sub.nil _ | (refine sub.consE rfl ?_ ?_; (first | with_reducible rfl | ((focus (first | (congr 1; omega) | (congr 1; exact (e9.trans e7).symm)))) | rfl)))))); ((try dsimp only); (repeat (first | (with_reducible exact Outs.nil) | ((with_reducible apply Outs.cons); (repeat (first | with_reducible exact Out.here | with_reducible apply Out.there))))))))
         | (have e7 : pW k.P a kd key n = false := by unfold pW; rw [show ((k.P.getD n tx0).ki == kd) = false by simpa]; simp
            (apply J.againI (s := n) (s' := (n + 1)); (focus (omega)); (focus ((try dsimp only); omega)); (focus (((try dsimp only); repeat (first | exact sub.nil _ | (refine sub.consE rfl ?_ ?_; (first | with_reducible rfl | ((focus (first | (congr 1; omega) | (congr 1; exact (e9.trans e7).symm)))) | rfl)))))); ((try dsimp only); (repeat (first | (with_reducible exact Outs.nil) | ((with_reducible apply Outs.cons); (repeat (first | with_reducible exact Out.here | with_reducible apply Out.there)))))))))
      | skip
  all_goals first
    | rfl
    | (exfalso
       have e0 : n = k.P.length := by omega
       subst e0
       simp_all; done)
    | ((with_reducible apply J.someR (ao := u7.1) (n := (fromE k.E fr).length) (E := 72) (C := evc (fromE k.E fr)) (sz := 27) (by (repeat (first | with_reducible exact In.here | with_reducible apply In.there))) (by decide); intro s2)
       (with_reducible apply J.someR (ao := u8.1) (n := k.E.length) (E := 72) (C := evc k.E) (sz := 27) (by (repeat (first | with_reducible exact In.here | with_reducible apply In.there))) (by decide); intro s3)
       apply J.loopI (σ := Nat) (I := fun j => j ≤ (fromE k.E fr).length) (L := fun j => [(11, .pointer (some ⟨b9, 0, none⟩)), (16, .slice u8.1 k.E.length u8.2), (19, .slice u7.1 (fromE k.E fr).length u7.2), (20, .int .i64 ((k.E.length : Int) - imin (imax fr 0) (k.E.length : Int))), (21, .int .i64 (j : Int))]) (HH := fun j => [row (.slice u7.1 (fromE k.E fr).length u7.2) 72 27 (fromE k.E fr).length (evc (fromE k.E fr)), row (.slice u8.1 k.E.length u8.2) 72 27 k.E.length (evc k.E)]) (m := fun j => (fromE k.E fr).length - j) (s0 := 0)
       · ((try dsimp only); (exact Nat.zero_le _))
       · ((try dsimp only); repeat (first | exact sub.nil _ | (refine sub.consE rfl ?_ ?_; (first | with_reducible rfl | (fail) | rfl))))
       · ((try dsimp only); (repeat (first | (with_reducible exact Outs.nil) | ((with_reducible apply Outs.cons); (repeat (first | with_reducible exact Out.here | with_reducible apply Out.there))))))
       rintro j hj
       try dsimp only at hj ⊢
       repeat' first
         | (refine J.qv ?_; (with_reducible apply exq); focus (first
           | ((with_reducible apply Qv.indexSrcs (k := j)); exact rfl; exact rfl; (focus omega); (focus omega); exact s2 (by omega))
           | ((with_reducible apply Qv.indexSrcs (k := offE k.E fr + j)); exact rfl; exact rfl; (focus omega); (focus omega); exact s3 (by omega))
           | ((with_reducible apply Qv.sub); exact rfl; exact rfl; exact wr64 (by omega) (by omega) rfl)
           | ((with_reducible apply Qv.add); exact rfl; exact rfl; exact wr64 (by omega) (by omega) rfl)
           | ((with_reducible apply Qv.neEv); exact rfl; exact rfl; exact hc.e.get _)))
         | (refine J.qr ?_; (with_reducible apply exq); focus (first
           | ((with_reducible apply Qr.rdN (C := evc (fromE k.E fr)) (j := j * 27) (cs := (k.E.getD (offE k.E fr + j) ev0).cells)); exact rfl; exact RH.row (by (repeat (first | with_reducible exact In.here | with_reducible apply In.there))); exact (evc_at (by omega)).trans (congrArg Ev.cells fromE_get); exact ev_len _)
           | ((with_reducible apply Qr.rdN (C := evc k.E) (j := (offE k.E fr + j) * 27) (cs := (k.E.getD (offE k.E fr + j) ev0).cells)); exact rfl; exact RH.row (by (repeat (first | with_reducible exact In.here | with_reducible apply In.there))); exact evc_at (by omega); exact ev_len _)))
         | (refine J.qo ?_; refine ⟨?_, ?_⟩; focus (first
           | ((with_reducible apply Qr.rdN (C := evc (fromE k.E fr)) (j := j * 27) (cs := (k.E.getD (offE k.E fr + j) ev0).cells)); exact rfl; exact RH.row (by (repeat (first | with_reducible exact In.here | with_reducible apply In.there))); exact (evc_at (by omega)).trans (congrArg Ev.cells fromE_get); exact ev_len _)
           | ((with_reducible apply Qr.rdN (C := evc k.E) (j := (offE k.E fr + j) * 27) (cs := (k.E.getD (offE k.E fr + j) ev0).cells)); exact rfl; exact RH.row (by (repeat (first | with_reducible exact In.here | with_reducible apply In.there))); exact evc_at (by omega); exact ev_len _)))
         | refine J.one ?_
         | refine J.loudS ?_
         | (refine J.loudQ ?_; intro _ _)
         | (refine J.loudB ?_; intro _)
         | (with_reducible apply J.list)
         | ((with_reducible apply J.draw (id := 27) [0, 0, 3, 7, 0, 0, 32, 0, 224, 0, 992, 2032, 4080, 8191] (.p 0 (.p 1 (.p 2 (.q 3 (.p 4 (.p 5 (.p 6 (.p 7 (.p 8 (.p 9 (.p 10 (.p 11 (.q 12 (.p 13 .nil)))))))))))))) (by kernel_rfl) ?_ (by kernel_rfl) ?_); (repeat (with_reducible first | exact PanicFree.body | exact PanicFree.np | exact PanicFree.lvS | apply PanicFree.then_ | apply PanicFree.blk)))
         | ((with_reducible apply J.pl2); exact rfl; (first | exact Gd.none | ((with_reducible apply Gd.on); exact rfl; exact rfl)); (repeat (first | (with_reducible exact PendF.nil) | ((with_reducible apply PendF.keep); exact rfl) | ((with_reducible apply PendF.gone); exact rfl))))
         | ((with_reducible apply J.pl2_off); exact rfl; ((with_reducible apply Gd.off); exact rfl; exact rfl; exact rfl); exact rfl; (repeat (first | (with_reducible exact PendF.nil) | ((with_reducible apply PendF.keep); exact rfl) | ((with_reducible apply PendF.gone); exact rfl))))
         | ((with_reducible apply J.pl2_off_none); exact rfl; ((with_reducible apply Gd.off); exact rfl; exact rfl; exact rfl); (repeat (first | (with_reducible exact PendF.nil) | ((with_reducible apply PendF.keep); exact rfl) | ((with_reducible apply PendF.gone); exact rfl))))
         | ((with_reducible first | apply J.psplit0 | apply J.psplit1 | apply J.psplit2); exact rfl; exact rfl; exact rfl)
         | (with_reducible exact J.pl_none)
         | ((with_reducible apply J.gsplit); exact rfl; exact rfl)
         | ((with_reducible first | apply J.cond | apply JC.cond); exact rfl)
         | (intro h; exfalso; (first | (simp at h; done) | (simp at h; omega) | omega))
         | (intro h; (try simp only [decide_eq_true_eq, decide_eq_false_iff_not, beq_iff_eq, beq_eq_false_iff_ne, Bool.not_eq_true', Bool.not_eq_false', bne_iff_ne, bne_eq_false_iff_eq, ne_eq, ge_iff_le, gt_iff_lt] at h))
         | (with_reducible apply J.gave')
         | ((with_reducible apply J.kept'); rotate_left; (repeat (first | (with_reducible exact Outs.nil) | ((with_reducible apply Outs.cons); (repeat (first | with_reducible exact Out.here | with_reducible apply Out.there))))))
       all_goals first
         | rfl
         | (apply J.againI (s := j) (s' := (j + 1)); (focus (omega)); (focus ((try dsimp only); omega)); (focus (((try dsimp only); repeat (first | exact sub.nil _ | (refine sub.consE rfl ?_ ?_; (first | with_reducible rfl | ((focus (congr 1; omega))) | rfl)))))); ((try dsimp only); (repeat (first | (with_reducible exact Outs.nil) | ((with_reducible apply Outs.cons); (repeat (first | with_reducible exact Out.here | with_reducible apply Out.there)))))))
         | (trace_state; fail))
    | (trace_state; fail)
theorem ChainWaits {r : Reach} {b0 : Nat} {H : Type} {enc : TypeId × Value → H} {spare : Nat → Bool} {held : Bool} {d : DataW H} {p : List MemPlace} (v : Value) (a kd at_ fr : Int) (W : World) (o : Value.okWide Tryz.prog W r b0 22 v) (t : DataW.Trod enc Tryz.prog W 0 spare held 22 v d p) (sz : ∀ a len cap, v = .slice (some a) len cap → len * Tryz.prog.bytesOf 50 ≤ 140737488355328) (g1 : (Lit.int .i64 a).wf = true) (g2 : (Lit.int .i64 kd).wf = true) (g3 : (Lit.int .i64 at_).wf = true) (g4 : (Lit.int .i64 fr).wf = true) :
    Calls Tryz.prog 5 #[v, .int .i64 a, .int .i64 kd, .int .i64 at_, .int .i64 fr] W fun e w' => e = .returned (.bool true) ∧ Below W.heap.size W w' := by
  obtain ⟨ao, T, cap, rfl, h1, h2, h3, h4⟩ := reads_txs (in_slice (L := txsh) (k := 6) (e := 50) rfl o t (by kernel_rfl))
  have h5 : T.length ≤ 140737488355328 := by
    cases ao with
    | none =>
      have h8 := txc_length T
      rw [h4.1 rfl] at h8
      simp at h8
      omega
    | some q =>
      have h9 := sz q _ _ rfl
      rw [show Tryz.prog.bytesOf 50 = 224 by kernel_rfl] at h9
      omega
  exact (waits ao cap T a kd at_ fr W ⟨h4, h3, h5⟩).below
end Go.Proofs.YtljbedladifgmaaGreat.Wai
