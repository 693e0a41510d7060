/-
  The law EscrowPlain. No conditions.
-/
import Derived.Test.YtljbedladifgmaaAlv
namespace Go.Proofs.Ytljbedladifgmaa.Pla
open Go Go.RowKit Eng
set_option linter.unusedVariables false
set_option maxRecDepth 100000
set_option linter.unusedSimpArgs false
open Wide Purse Tx Sha Ss Esc Vau Lck Do Prep Ful Doo Tri App Inn Low Gene Pln Plx Sam Alv Deal Mss Ots Hash Bytes
set_option maxHeartbeats 1000000
def tmF (x : Int) : Int := (x.tmod 1099511627776 + 1099511627776).tmod 1099511627776
theorem tm_b (x : Int) : -1099511627776 < x.tmod 1099511627776 ∧ x.tmod 1099511627776 < 1099511627776 := by
  have h1 := Int.tmod_lt_of_pos x (b := 1099511627776) (by decide)
  have h2 := Int.lt_tmod_of_pos x (b := 1099511627776) (by decide)
  omega
theorem tmF_b (x : Int) : 0 ≤ tmF x ∧ tmF x < 1099511627776 := by
  have h := tm_b x
  unfold tmF
  exact ⟨Int.tmod_nonneg _ (by omega), Int.tmod_lt_of_pos _ (by decide)⟩
def wr1 (x : Int) : Int := IntKind.i64.wrap (x + 1)
theorem wr1_eq (x : Int) : IntKind.i64.wrap (x + 1) = wr1 x := rfl
theorem tmF_eq (x : Int) : (x.tmod 1099511627776 + 1099511627776).tmod 1099511627776 = tmF x := rfl
theorem wr1_ne {x : Int} (h : I64 x) : x ≠ wr1 x := by
  have h1 := i64_b h
  unfold wr1
  intro e
  rcases Int.lt_or_le x 9223372036854775807 with h2 | h2
  · rw [wr64 (by omega) (by omega) rfl] at e
    omega
  · obtain rfl : x = 9223372036854775807 := by omega
    exact absurd e (by decide)
def incs (L : List Lk) : Nat → List Lk
  | 0 => L
  | i + 1 => stL (incs L i) i (wr1 (L.getD i lk0).st)
theorem incs_length (L : List Lk) : ∀ i, (incs L i).length = L.length
  | 0 => rfl
  | i + 1 => by rw [incs, stL_length, incs_length L i]
theorem stL_other {L : List Lk} {i j : Nat} {x : Int} (h : j ≠ i) : (stL L i x).getD j lk0 = L.getD j lk0 := by
  simp [stL, List.getD_eq_getElem?_getD, List.getElem?_set, Ne.symm h]
theorem incs_get (L : List Lk) : ∀ {i j : Nat}, i ≤ j → (incs L i).getD j lk0 = L.getD j lk0
  | 0, _, _ => rfl
  | i + 1, j, h => by rw [incs, stL_other (by omega), incs_get L (by omega)]
theorem incs_now {L : List Lk} {i : Nat} (h : i < L.length) : (lcs (incs L i))[i * 3 + 2]? = some (.int .i64 (L.getD i lk0).st) := by
  rw [lcs_get (by rw [incs_length]; exact h) (by decide), incs_get L (Nat.le_refl _)]
  rfl
theorem incs_new {L : List Lk} {i : Nat} (h : i < L.length) : (lcs (incs L (i + 1)))[i * 3 + 2]? = some (.int .i64 (wr1 (L.getD i lk0).st)) := by
  rw [lcs_get (by rw [incs_length]; exact h) (by decide)]
  have e : (incs L (i + 1)).getD i lk0 = { (incs L i).getD i lk0 with st := wr1 (L.getD i lk0).st } := by
    rw [incs, stL, List.getD_eq_getElem?_getD, List.getElem?_set_self (by rw [incs_length]; exact h)]
    rfl
  rw [e]
  rfl
theorem incs_set {L : List Lk} {i : Nat} (h : i < L.length) : splice (lcs (incs L i)) (i * 3 + 2) [.int .i64 (wr1 (L.getD i lk0).st)] = lcs (incs L (i + 1)) := lcs_set (by rw [incs_length]; exact h) _
section
variable {P : Program} {c : Cx} {l : TL} {H : List Asrt} {G : Act → World → Prop}
theorem J.someR {ao : Option Addr} {n cap E sz : Nat} {C : List Value} (hm : In (row (.slice ao n cap) E sz n C) H) (hz : sz ≠ 0) (K : (0 < n → ao.isSome = true) → J c l H G) : J c l H G := J.mk fun a w s => by
  obtain ⟨h1, h2, _, h3, _⟩ := s.2.2.rd_row hm
  refine (K fun hn => h1.isSome fun e => ?_).out a w s
  rw [e] at h3
  have : n * sz = 0 := by simpa using h3.symm
  rcases Nat.mul_eq_zero.1 this with h | h <;> omega
end
theorem rise_0 {s : SS} (h : SOk s) {k : Int} (hk : ¬ 0 < k) : (riseS s k).time = s.time := by
  have h0 := h.t0
  have h1 := h.t1
  show s.time + imin (imax k 0) (imax (1099511627776 - s.time) 0) = s.time
  unfold imin imax
  (repeat' split) <;> omega
theorem rise_1 {s : SS} (h : SOk s) {k : Int} (hk : 0 < k) : (riseS s k).time = s.time + imin k (1099511627776 - s.time) := by
  have h0 := h.t0
  have h1 := h.t1
  show s.time + imin (imax k 0) (imax (1099511627776 - s.time) 0) = _
  unfold imin imax
  (repeat' split) <;> omega
theorem imin_b {s : SS} (h : SOk s) {k : Int} (hk : 0 < k) : 0 ≤ imin k (1099511627776 - s.time) ∧ imin k (1099511627776 - s.time) ≤ 1099511627776 - s.time := by
  have h0 := h.t0
  have h1 := h.t1
  unfold imin
  split <;> omega
theorem neBook {mm T' : Nat} {x y : Operand} {l : TL} {ns ms : Nat → Int} (hx : ev l x = some (.agg (wvs ns 16).toArray)) (hy : ev l y = some (.agg (wvs ms 16).toArray)) (h : ∀ j, Wd (ns j)) (e : ms = ns) : Qv Try.prog mm l (.binOp .neq 27 x y T') (.bool false) := by
  subst e
  exact Qv.neqA (r := true) hx hy (by kernel_rfl) (fun w => wvs_eq (m := 16) (by kernel_rfl) (by kernel_rfl) (by kernel_rfl) (by kernel_rfl) (by kernel_rfl) (fun j _ => h j) (fun j _ => h j) (by simp) w)
theorem plainLaw (at_ tm : Int) (s0 : SS) (ao : Option Addr) (cap : Nat) (L : List Lk) (k : Int) (w : World) (hw : Rd w ao (lcs L) ∧ SIn s0 ∧ LIn L ∧ L.length + 1 ≤ maxLen ∧ (L.length + 1) * 40 ≤ 140737488355328) : CSpec Try.prog 4 [.int .i64 at_, .int .i64 tm, .agg (s0.cells (.slice ao L.length cap)).toArray, .int .i64 k] [] w (Gives (.bool true)) := by
  obtain ⟨hr, hi, hL, hm1, hb⟩ := hw
  have hm : L.length ≤ maxLen := by omega
  have hm9 : L.length ≤ 9223372036854775807 := by unfold maxLen at hm; omega
  have hb2 : L.length * 40 ≤ 140737488355328 := by omega
  have htm := tm_b s0.time
  have htF := tmF_b s0.time
  have hs : SOk { s0 with time := tmF s0.time } := ⟨hi.pu, hi.va, hi.he, hi.bu, htF.1, by have := htF.2; show tmF s0.time ≤ _; omega⟩
  have hao : 0 < L.length → ao.isSome = true := fun h => hr.isSome fun e => by
    have h8 := lcs_length L
    rw [e] at h8
    simp at h8
    omega
  refine spec_own0 Try.func4 rfl Try.ntmps4 rfl (l0 := [(0, .int .i64 at_), (1, .int .i64 tm), (2, .agg (s0.cells (.slice ao L.length cap)).toArray), (3, .int .i64 k)]) rfl ?_
  repeat' first
    | (refine J.qv ?_; (with_reducible apply exq); focus (first
      | ((with_reducible apply neBook); exact rfl; exact rfl; (first | exact fun _ => wd_n (n := 1000) (by decide) (by decide) | exact fun _ => wd_n (n := 0) (by decide) (by decide)); rfl)
      | ((with_reducible apply Qv.buildA (T := 27)); exact rfl; (show _ = some (wvs (fun _ => 0) 16)); kernel_rfl)
      | ((with_reducible apply Qv.sub); exact rfl; exact rfl; exact wr64 (by have h7 := hs.t0; have h8 := hs.t1; dsimp only at *; omega) (by have h7 := hs.t0; have h8 := hs.t1; dsimp only at *; omega) rfl)
      | ((with_reducible apply Qv.add); exact rfl; exact rfl; exact wr64 (by have h7 := hs.t0; have h6 := imin_b hs (k := k) (by omega); dsimp only at *; omega) (by have h7 := hs.t0; have h8 := hs.t1; have h6 := imin_b hs (k := k) (by omega); dsimp only at *; omega) rfl)
      | ((with_reducible apply Qv.add); exact rfl; exact rfl; exact wr64 (by omega) (by omega) rfl)
      | ((with_reducible apply Qv.rem); exact rfl; exact rfl; decide; exact tmF_eq s0.time)
      | ((with_reducible apply Qv.rem); exact rfl; exact rfl; decide; exact rfl)))
    | (refine J.qr ?_; (with_reducible apply exq); focus (first
      | ((with_reducible apply Qr.ldLv); exact rfl; (focus ((repeat (first | with_reducible exact In.here | with_reducible apply In.there)); done)))
      | ((with_reducible apply Qr.ldPu); exact rfl; (focus ((repeat (first | with_reducible exact In.here | with_reducible apply In.there)); done)))
      | ((with_reducible apply Qr.ldVa); exact rfl; (focus ((repeat (first | with_reducible exact In.here | with_reducible apply In.there)); done)))
      | ((with_reducible apply Qr.ldTime); exact rfl; (focus ((repeat (first | with_reducible exact In.here | with_reducible apply In.there)); done)))
      | ((with_reducible apply Qr.ldSide); exact rfl; (focus ((repeat (first | with_reducible exact In.here | with_reducible apply In.there)); done)))
      | ((with_reducible apply Qr.loadFull); exact rfl; (focus ((repeat (first | with_reducible exact In.here | with_reducible apply In.there)); done)); (first | (with_reducible first | exact SS.len _ _ | exact wv_length _) | exact rfl))))
    | (refine J.qo ?_; refine ⟨?_, ?_⟩; focus (first
      | ((with_reducible apply Qr.ldLv); exact rfl; (focus ((repeat (first | with_reducible exact In.here | with_reducible apply In.there)); done)))
      | ((with_reducible apply Qr.ldPu); exact rfl; (focus ((repeat (first | with_reducible exact In.here | with_reducible apply In.there)); done)))
      | ((with_reducible apply Qr.ldVa); exact rfl; (focus ((repeat (first | with_reducible exact In.here | with_reducible apply In.there)); done)))
      | ((with_reducible apply Qr.ldTime); exact rfl; (focus ((repeat (first | with_reducible exact In.here | with_reducible apply In.there)); done)))
      | ((with_reducible apply Qr.ldSide); exact rfl; (focus ((repeat (first | with_reducible exact In.here | with_reducible apply In.there)); done)))
      | ((with_reducible apply Qr.loadFull); exact rfl; (focus ((repeat (first | with_reducible exact In.here | with_reducible apply In.there)); done)); (first | (with_reducible first | exact SS.len _ _ | exact wv_length _) | exact rfl))))
    | ((with_reducible apply J.storeFull); exact rfl; exact rfl; (repeat (first | with_reducible exact Upd.here | with_reducible apply Upd.there)); (with_reducible exact SS.len _ _); (focus (first | (with_reducible exact SS.len _ _) | kernel_rfl)); with_reducible exact SS.ones _ _ _ _)
    | ((with_reducible apply J.stTime); exact rfl; exact rfl; (repeat (first | with_reducible exact Upd.here | with_reducible apply Upd.there)))
    | ((with_reducible apply J.givesW (alive12)); exact rfl; exact rfl)
    | ((with_reducible apply J.givesW (gen_ _ _)); exact rfl; exact rfl)
    | ((with_reducible apply J.givesP (even _)); exact rfl; exact rfl; (unfold Wo; omega))
    | ((with_reducible apply J.stV (rise_ _ _ _ _ L)); exact rfl; exact rfl; (exact RH.and (RH.old hr) (RH.of ⟨hs, hm, hb2⟩)); intro q9 hq9)
    | refine J.one ?_
    | refine J.loudS ?_
    | (refine J.loudQ ?_; intro _ _)
    | (refine J.loudB ?_; intro _)
    | (with_reducible apply J.list)
    | ((with_reducible apply J.draw (id := 4) [0, 1, 0, 4, 12, 31, 63, 127, 255, 127, 639, 1663, 4095, 8191, 16383, 32767, 65535, 32767, 262143, 524287, 1048575, 2097151, 4194303, 2097151, 16777215, 33554431, 67108863, 134217727, 268435455, 536870911, 1073741823, 2147483647] (.p 0 (.q 1 (.p 2 (.p 3 (.p 4 (.p 5 (.p 6 (.p 7 (.q 8 (.p 9 (.p 10 (.p 11 (.p 12 (.p 13 (.p 14 (.p 15 (.q 16 (.x 17 (.p 18 (.p 19 (.p 20 (.p 21 (.q 22 (.p 23 (.p 24 (.p 25 (.p 26 (.p 27 (.q 28 (.p 29 (.p 30 (.p 31 .nil)))))))))))))) .none)))))))))))))))))) (by kernel_rfl) ?_ (by kernel_rfl) ?_); (repeat (with_reducible first | exact PanicFree.body | exact PanicFree.np | exact PanicFree.lvS | apply PanicFree.then_ | apply PanicFree.blk)))
    | ((with_reducible apply J.draw (id := 14) [0, 1, 0, 0, 8, 0, 56, 120, 248, 504, 1023, 2047, 4095] (.p 0 (.q 1 (.p 2 (.p 3 (.q 4 (.p 5 (.p 6 (.p 7 (.q 8 (.p 9 (.p 10 (.p 11 (.x 12 .nil .none))))))))))))) (by kernel_rfl) ?_ (by kernel_rfl) ?_); (repeat (with_reducible first | exact PanicFree.body | exact PanicFree.np | exact PanicFree.lvS | apply PanicFree.then_ | apply PanicFree.blk)))
    | ((with_reducible apply J.draw (id := 15) [0, 1, 0, 7, 15, 31, 0, 64, 0, 448, 960, 1984, 4095] (.p 0 (.q 1 (.p 2 (.p 3 (.p 4 (.q 5 (.p 6 (.q 7 (.p 8 (.p 9 (.p 10 (.q 11 (.p 12 .nil))))))))))))) (by kernel_rfl) ?_ (by kernel_rfl) ?_); (repeat (with_reducible first | exact PanicFree.body | exact PanicFree.np | exact PanicFree.lvS | apply PanicFree.then_ | apply PanicFree.blk)))
    | ((with_reducible apply J.pl2); exact rfl; (first | exact Gd.none | ((with_reducible apply Gd.on); exact rfl; exact rfl)); (repeat (first | (with_reducible exact PendF.nil) | ((with_reducible apply PendF.keep); exact rfl) | ((with_reducible apply PendF.gone); exact rfl))))
    | ((with_reducible apply J.pl2_off); exact rfl; ((with_reducible apply Gd.off); exact rfl; exact rfl; exact rfl); exact rfl; (repeat (first | (with_reducible exact PendF.nil) | ((with_reducible apply PendF.keep); exact rfl) | ((with_reducible apply PendF.gone); exact rfl))))
    | ((with_reducible apply J.pl2_off_none); exact rfl; ((with_reducible apply Gd.off); exact rfl; exact rfl; exact rfl); (repeat (first | (with_reducible exact PendF.nil) | ((with_reducible apply PendF.keep); exact rfl) | ((with_reducible apply PendF.gone); exact rfl))))
    | ((with_reducible first | apply J.psplit0 | apply J.psplit1 | apply J.psplit2); exact rfl; exact rfl; exact rfl)
    | (with_reducible exact J.pl_none)
    | ((with_reducible apply J.gsplit); exact rfl; exact rfl)
    | ((with_reducible first | apply J.cond | apply JC.cond); exact rfl)
    | (intro h; exfalso; (first | (simp at h; done) | (simp [genS, zS] at h; done) | omega))
    | (intro h; (try simp only [decide_eq_true_eq, decide_eq_false_iff_not, beq_iff_eq, beq_eq_false_iff_ne, Bool.not_eq_true', Bool.not_eq_false', bne_iff_ne, bne_eq_false_iff_eq, ne_eq, ge_iff_le, gt_iff_lt] at h))
    | (with_reducible apply J.gave')
    | ((with_reducible apply J.kept'); rotate_left; (repeat (first | (with_reducible exact Outs.nil) | ((with_reducible apply Outs.cons); (repeat (first | with_reducible exact Out.here | with_reducible apply Out.there))))))
  all_goals
    rename_i b6 _ b9 _ _ _ b10
    (with_reducible apply J.someR (E := 56) (C := lcs L))
    · (repeat (first | with_reducible exact In.here | with_reducible apply In.there))
    · decide
    intro hq
    apply J.reR (E := 56) (C := lcs L) (C' := lcs (incs L 0)) (n' := L.length) (v' := .slice q9.1 L.length q9.2)
    · (repeat (first | with_reducible exact Upd.here | with_reducible apply Upd.there))
    · rfl
    · rfl
    · rfl
    apply J.loopI (σ := Nat) (I := fun i => i ≤ L.length) (L := fun i => [(6, .pointer (some ⟨b6, 0, none⟩)), (10, .pointer (some ⟨b10, 0, none⟩)), (11, .int .i64 (riseS { s0 with time := tmF s0.time } k).time), (12, .int .i64 (i : Int))]) (HH := fun i => [blk b6 (SS.cells { s0 with time := tmF s0.time } (.slice ao L.length cap)) 31, blk b10 ((riseS { s0 with time := tmF s0.time } k).cells (.slice q9.1 L.length q9.2)) 31, row (.slice q9.1 L.length q9.2) 56 3 L.length (lcs (incs L i))]) (m := fun i => L.length - i) (s0 := 0)
    · ((try dsimp only); omega)
    · ((try dsimp only); repeat (first | exact sub.nil _ | (refine sub.consE rfl ?_ ?_; (first | with_reducible rfl | ((focus (congr 1; first | exact (rise_0 hs (by omega)).symm | exact (rise_1 hs (by omega)).symm))) | rfl))))
    · ((try dsimp only); (repeat (first | (with_reducible exact Outs.nil) | ((with_reducible apply Outs.cons); (repeat (first | with_reducible exact Out.here | with_reducible apply Out.there))))))
    rintro i hI
    try dsimp only at hI ⊢
    repeat' first
      | (refine J.qv ?_; (with_reducible apply exq); focus (first
        | ((with_reducible apply Qv.indexSrcs (k := i)); exact rfl; exact rfl; (focus omega); (focus omega); (first | exact hao (by omega) | exact hq (by omega)))
        | ((with_reducible apply Qv.fieldAdd); exact rfl)
        | ((with_reducible apply Qv.add); exact rfl; exact rfl; exact wr1_eq (L.getD i lk0).st)
        | ((with_reducible apply Qv.add); exact rfl; exact rfl; exact wr64 (by omega) (by omega) (show (i : Int) + 1 = _ from rfl))))
      | (refine J.qr ?_; (with_reducible apply exq); focus (first
        | ((with_reducible apply Qr.rd1 (C := lcs (incs L i)) (j := i * 3 + 2)); exact rfl; exact RH.row (by (repeat (first | with_reducible exact In.here | with_reducible apply In.there))); exact incs_now (by omega))
        | ((with_reducible apply Qr.rd1 (C := lcs (incs L (i + 1))) (j := i * 3 + 2)); exact rfl; exact RH.row (by (repeat (first | with_reducible exact In.here | with_reducible apply In.there))); exact incs_new (by omega))
        | ((with_reducible apply Qr.rd1 (C := lcs L) (j := i * 3 + 2)); exact rfl; exact RH.old hr; exact lcs_get (by omega) (by decide))
        | ((with_reducible apply Qr.ldLv); exact rfl; (focus ((repeat (first | with_reducible exact In.here | with_reducible apply In.there)); done)))
        | ((with_reducible apply Qr.ldPu); exact rfl; (focus ((repeat (first | with_reducible exact In.here | with_reducible apply In.there)); done)))
        | ((with_reducible apply Qr.ldVa); exact rfl; (focus ((repeat (first | with_reducible exact In.here | with_reducible apply In.there)); done)))
        | ((with_reducible apply Qr.ldTime); exact rfl; (focus ((repeat (first | with_reducible exact In.here | with_reducible apply In.there)); done)))
        | ((with_reducible apply Qr.ldSide); exact rfl; (focus ((repeat (first | with_reducible exact In.here | with_reducible apply In.there)); done)))))
      | (refine J.qo ?_; refine ⟨?_, ?_⟩; focus (first
        | ((with_reducible apply Qr.rd1 (C := lcs (incs L i)) (j := i * 3 + 2)); exact rfl; exact RH.row (by (repeat (first | with_reducible exact In.here | with_reducible apply In.there))); exact incs_now (by omega))
        | ((with_reducible apply Qr.rd1 (C := lcs (incs L (i + 1))) (j := i * 3 + 2)); exact rfl; exact RH.row (by (repeat (first | with_reducible exact In.here | with_reducible apply In.there))); exact incs_new (by omega))
        | ((with_reducible apply Qr.rd1 (C := lcs L) (j := i * 3 + 2)); exact rfl; exact RH.old hr; exact lcs_get (by omega) (by decide))
        | ((with_reducible apply Qr.ldLv); exact rfl; (focus ((repeat (first | with_reducible exact In.here | with_reducible apply In.there)); done)))
        | ((with_reducible apply Qr.ldPu); exact rfl; (focus ((repeat (first | with_reducible exact In.here | with_reducible apply In.there)); done)))
        | ((with_reducible apply Qr.ldVa); exact rfl; (focus ((repeat (first | with_reducible exact In.here | with_reducible apply In.there)); done)))
        | ((with_reducible apply Qr.ldTime); exact rfl; (focus ((repeat (first | with_reducible exact In.here | with_reducible apply In.there)); done)))
        | ((with_reducible apply Qr.ldSide); exact rfl; (focus ((repeat (first | with_reducible exact In.here | with_reducible apply In.there)); done)))))
      | ((with_reducible apply J.cellR); exact rfl; exact rfl; exact rfl; (repeat (first | with_reducible exact Upd.here | with_reducible apply Upd.there)); (rw [lcs_length, incs_length]; omega); exact incs_set (by omega))
      | refine J.one ?_
      | refine J.loudS ?_
      | (refine J.loudQ ?_; intro _ _)
      | (refine J.loudB ?_; intro _)
      | (with_reducible apply J.list)
      | ((with_reducible apply J.draw (id := 4) [0, 1, 0, 4, 12, 31, 63, 127, 255, 127, 639, 1663, 4095, 8191, 16383, 32767, 65535, 32767, 262143, 524287, 1048575, 2097151, 4194303, 2097151, 16777215, 33554431, 67108863, 134217727, 268435455, 536870911, 1073741823, 2147483647] (.p 0 (.q 1 (.p 2 (.p 3 (.p 4 (.p 5 (.p 6 (.p 7 (.q 8 (.p 9 (.p 10 (.p 11 (.p 12 (.p 13 (.p 14 (.p 15 (.q 16 (.x 17 (.p 18 (.p 19 (.p 20 (.p 21 (.q 22 (.p 23 (.p 24 (.p 25 (.p 26 (.p 27 (.q 28 (.p 29 (.p 30 (.p 31 .nil)))))))))))))) .none)))))))))))))))))) (by kernel_rfl) ?_ (by kernel_rfl) ?_); (repeat (with_reducible first | exact PanicFree.body | exact PanicFree.np | exact PanicFree.lvS | apply PanicFree.then_ | apply PanicFree.blk)))
      | ((with_reducible apply J.draw (id := 14) [0, 1, 0, 0, 8, 0, 56, 120, 248, 504, 1023, 2047, 4095] (.p 0 (.q 1 (.p 2 (.p 3 (.q 4 (.p 5 (.p 6 (.p 7 (.q 8 (.p 9 (.p 10 (.p 11 (.x 12 .nil .none))))))))))))) (by kernel_rfl) ?_ (by kernel_rfl) ?_); (repeat (with_reducible first | exact PanicFree.body | exact PanicFree.np | exact PanicFree.lvS | apply PanicFree.then_ | apply PanicFree.blk)))
      | ((with_reducible apply J.draw (id := 15) [0, 1, 0, 7, 15, 31, 0, 64, 0, 448, 960, 1984, 4095] (.p 0 (.q 1 (.p 2 (.p 3 (.p 4 (.q 5 (.p 6 (.q 7 (.p 8 (.p 9 (.p 10 (.q 11 (.p 12 .nil))))))))))))) (by kernel_rfl) ?_ (by kernel_rfl) ?_); (repeat (with_reducible first | exact PanicFree.body | exact PanicFree.np | exact PanicFree.lvS | apply PanicFree.then_ | apply PanicFree.blk)))
      | ((with_reducible apply J.pl2); exact rfl; (first | exact Gd.none | ((with_reducible apply Gd.on); exact rfl; exact rfl)); (repeat (first | (with_reducible exact PendF.nil) | ((with_reducible apply PendF.keep); exact rfl) | ((with_reducible apply PendF.gone); exact rfl))))
      | ((with_reducible apply J.pl2_off); exact rfl; ((with_reducible apply Gd.off); exact rfl; exact rfl; exact rfl); exact rfl; (repeat (first | (with_reducible exact PendF.nil) | ((with_reducible apply PendF.keep); exact rfl) | ((with_reducible apply PendF.gone); exact rfl))))
      | ((with_reducible apply J.pl2_off_none); exact rfl; ((with_reducible apply Gd.off); exact rfl; exact rfl; exact rfl); (repeat (first | (with_reducible exact PendF.nil) | ((with_reducible apply PendF.keep); exact rfl) | ((with_reducible apply PendF.gone); exact rfl))))
      | ((with_reducible first | apply J.psplit0 | apply J.psplit1 | apply J.psplit2); exact rfl; exact rfl; exact rfl)
      | (with_reducible exact J.pl_none)
      | ((with_reducible apply J.gsplit); exact rfl; exact rfl)
      | ((with_reducible first | apply J.cond | apply JC.cond); exact rfl)
      | (intro h; exfalso; (first | (simp at h; done) | (simp at h; exact absurd h (wr1_ne (hL.get i).st)) | omega))
      | (intro h; (try simp only [decide_eq_true_eq, decide_eq_false_iff_not, beq_iff_eq, beq_eq_false_iff_ne, Bool.not_eq_true', Bool.not_eq_false', bne_iff_ne, bne_eq_false_iff_eq, ne_eq, ge_iff_le, gt_iff_lt] at h))
      | (with_reducible apply J.gave')
      | ((with_reducible apply J.kept'); rotate_left; (repeat (first | (with_reducible exact Outs.nil) | ((with_reducible apply Outs.cons); (repeat (first | with_reducible exact Out.here | with_reducible apply Out.there))))))
    all_goals first
      | rfl
      | (simp only [retv, beq_self_eq_true]; done)
      | (apply J.againI (s := i) (s' := (i + 1)); (focus (omega)); (focus ((try dsimp only); omega)); (focus (((try dsimp only); repeat (first | exact sub.nil _ | (refine sub.consE rfl ?_ ?_; (first | with_reducible rfl | ((focus (congr 1; omega))) | rfl)))))); ((try dsimp only); (repeat (first | (with_reducible exact Outs.nil) | ((with_reducible apply Outs.cons); (repeat (first | with_reducible exact Out.here | with_reducible apply Out.there)))))))
      | (trace_state; fail)
theorem EscrowPlain {r : Reach} {b0 : Nat} {H : Type} {enc : TypeId × Value → H} {spare : Nat → Bool} {held : Bool} {d : DataW H} {p : List MemPlace} (at_ tm : Int) (v : Value) (k : Int) (W : World) (g1 : (Lit.int .i64 at_).wf = true) (g2 : (Lit.int .i64 tm).wf = true) (o : Value.okWide Try.prog W r b0 31 v) (t : DataW.Trod enc Try.prog W 0 spare held 31 v d p) (sz : ∀ (cs : List Value) a len cap, v = .agg cs.toArray → cs[150]? = some (.slice (some a) len cap) → len * Try.prog.bytesOf 56 ≤ 140737488351232) (g3 : (Lit.int .i64 k).wf = true) :
    Calls Try.prog 4 #[.int .i64 at_, .int .i64 tm, v, .int .i64 k] W fun e w' => e = .returned (.bool true) ∧ Below W.heap.size W w' := by
  obtain ⟨s, ao, L, cap, rfl, h1, h2, h3, h4, h5⟩ := in_st o t sz
  exact (plainLaw at_ tm s ao cap L k W ⟨h3, h1, h2, h4, h5⟩).below
end Go.Proofs.Ytljbedladifgmaa.Pla
