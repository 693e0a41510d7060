/-
  A relayer: what it hears. No conditions.
-/
import Derived.Test.YtfcaeifpclpnoaaQMrd
import Derived.Test.YtfcaeifpclpnoaaQSgn
namespace Go.Proofs.Ytfcaeifpclpnoaa.Rly
open Go Go.RowKit Eng
set_option linter.unusedVariables false
set_option maxRecDepth 100000
set_option linter.unusedSimpArgs false
open Sha Iter Hash Bytes Hsum Wide Tx Field Deal Msg Fld Fld2 Unw Fld3 Cas Rdr Mch Mpt Mrd Ots
set_option maxHeartbeats 2000000
def mgc (T : List Mg) : List Value := (T.map Mg.cells).flatten
theorem mgc_length : ∀ T : List Mg, (mgc T).length = T.length * 43
  | [] => rfl
  | k :: L => by
    have h := mgc_length L
    unfold mgc at h ⊢
    rw [List.map_cons, List.flatten_cons, List.length_append, h, show k.cells.length = 43 from rfl, List.length_cons]
    omega
theorem mgc_at : ∀ {T : List Mg} {i : Nat}, i < T.length → ((mgc T).drop (i * 43)).take 43 = (T.getD i mg0).cells
  | k :: L, 0, _ => by
    have e : mgc (k :: L) = k.cells ++ mgc L := rfl
    rw [e, Nat.zero_mul, List.drop_zero]
    exact List.take_left' rfl
  | k :: L, i + 1, h => by
    have h2 := mgc_at (T := L) (i := i) (by simpa using h)
    have e : mgc (k :: L) = k.cells ++ mgc L := rfl
    rw [e, show (i + 1) * 43 = k.cells.length + i * 43 by show _ = 43 + _; omega, List.drop_append, List.drop_eq_nil_of_le (by omega), List.nil_append, show k.cells.length + i * 43 - k.cells.length = i * 43 by omega, h2]
    rfl
theorem mgc_ones : ∀ T : List Mg, (mgc T).all (·.oneCell') = true
  | [] => rfl
  | k :: L => by
    have h := mgc_ones L
    have e : mgc (k :: L) = k.cells ++ mgc L := rfl
    rw [e, List.all_append, h]
    rfl
theorem bf_cons {place : Nat → Option (Nat × Nat)} {C C' : List Value} {i off size : Nat} {v : Value} {rest : List (Nat × Value)} {r : Option (List Value)} (hp : place i = some (off, size)) (hl : v.cells.toList.length = size) (ho : off + size ≤ C.length) (hs : splice C off v.cells.toList = C') (h : bfill place C' rest = r) : bfill place C ((i, v) :: rest) = r := by
  subst hs
  simp only [bfill, hp]
  rw [if_pos ⟨hl, ho⟩]
  exact h
section
variable {P : Program} {c : Cx} {l : TL} {H R : List Asrt} {Q : Exit → Act → World → Prop} {X : Act → World → Prop} {G : Act → World → Prop}
variable {ty : TypeId} {pos : String} {af : Array Edge} {d : Nat} {v : Value} {dst : Option Tmp} {mm : Nat}
theorem J.build1 {T E bytes n : Nat} {z : List Value} [i : Sl P T E bytes] [t : Ty P E true n z] {x : Operand} {cs : List Value} (hd : Nat.blt d c.n = true) (hx : ev l x = some (.agg cs.toArray)) (hl : cs.length = n) (hz : z.length = n) (hb : Nat.ble (1 * n) 1000 = true) (hpos : (1 * n == 0) = false)
    (K : ∀ b, J c ((d, .slice (some ⟨b, 0, none⟩) 1 1) :: l) (blk b cs E :: H) X) : J c l H (OW P Q ⟨some d, .buildSlice T 1 #[(0, x)], ty, pos, af, none⟩ X) :=
  J.buildSlice (xs := [(0, x)]) (vs := [(0, .agg cs.toArray)]) hd (by simp [evp, hx]) hz hb hpos (by
    have hr : (rep 1 z).length = n := by simp [rep, hz]
    refine bf_cons (C' := cs) (off := 0) (size := n) (by simp) (by simpa [Value.cells] using hl) (by omega) ?_ rfl
    show splice (rep 1 z) 0 cs = cs
    exact splice_all (by rw [hr, hl])) K
end
theorem mgc_add (B : List Mg) (m : Mg) : mgc B ++ m.cells = mgc (B ++ [m]) := by simp [mgc]
def MsIn (B : List Mg) : Prop := ∀ m, m ∈ B → MgIn m
theorem MsIn.get {B : List Mg} (h : MsIn B) (i : Nat) : MgIn (B.getD i mg0) := by
  rcases Nat.lt_or_ge i B.length with h1 | h1
  · rw [List.getD_eq_getElem?_getD, List.getElem?_eq_getElem h1]
    exact h _ (List.getElem_mem h1)
  · rw [List.getD_eq_getElem?_getD, List.getElem?_eq_none h1]
    exact mg0_in
theorem MsIn.add {B : List Mg} {m : Mg} (h : MsIn B) (hm : MgIn m) : MsIn (B ++ [m]) := fun x hx => by
  rcases List.mem_append.1 hx with h1 | h1
  · exact h x h1
  · rw [List.mem_singleton.1 h1]
    exact hm
/-- Where a message is. -/
noncomputable def idM (B : List Mg) (v : Mg) : Int := findI (fun i => meq v (B.getD i mg0)) B.length
noncomputable def conM (B : List Mg) (v : Mg) : Bool := decide (0 ≤ idM B v)
theorem conM_iff {B : List Mg} {v : Mg} : conM B v = true ↔ v ∈ B := by
  unfold conM idM
  rw [decide_eq_true_iff]
  rcases findI_or (p := fun i => meq v (B.getD i mg0)) (N := B.length) with ⟨h, h2⟩ | ⟨i, h1, h2, h3, h4⟩
  · rw [h]
    constructor
    · intro h3; omega
    · intro h3
      obtain ⟨i, hi, e⟩ := List.getElem_of_mem h3
      have h5 := h2 i hi
      have h6 : B.getD i mg0 = v := by rw [List.getD_eq_getElem?_getD, List.getElem?_eq_getElem hi]; exact e
      rw [h6, meq_self] at h5
      cases h5
  · rw [h2]
    constructor
    · intro _
      have h5 := meq_iff.1 h3
      rw [h5, List.getD_eq_getElem?_getD, List.getElem?_eq_getElem h1]
      exact List.getElem_mem h1
    · intro _; omega
theorem pBody_in {ki : Int} {z : Pz} (hk : I64 ki) : MgIn (pBody ki z).2 := by
  have i := fun (m : Int) (z : Pz) => (i64_num (m := m) (z := z) (z' := (pNum m z).1) (v := (pNum m z).2) rfl)
  have t := fun (m : Int) (z : Pz) => (pText_len (m := m) (z := z) (z' := (pText m z).1) (v := (pText m z).2) rfl)
  have a := fun (z : Pz) => (pAsk_in (z := z) (z' := (pAsk z).1) (a := (pAsk z).2) rfl)
  have wd := fun (z : Pz) => (pWide_wd (z := z) (z' := (pWide z).1) (v := (pWide z).2) rfl)
  have v := fun (z : Pz) => (pVar_in (z := z) (z' := (pVar z).1) (va := (pVar z).2.1) (ex := (pVar z).2.2) rfl)
  unfold pBody
  split
  · exact ⟨hk, a _, bd0_in, iv0_in, wd_0, i64_0, wd_0, Nat.zero_le _⟩
  · split
    · exact ⟨hk, ak0_in, ⟨i _ _, a _, wd _, i _ _, t _ _⟩, iv0_in, wd_0, i64_0, wd_0, Nat.zero_le _⟩
    · split
      · exact ⟨hk, ak0_in, bd0_in, pInv_in (z' := (pInv _).1) rfl, (v _).1, (v _).2, wd _, t _ _⟩
      · exact ⟨hk, ak0_in, bd0_in, iv0_in, wd_0, i64_0, wd_0, Nat.zero_le _⟩
theorem pRead_in (l : List UInt8) : MgIn (pRead l).1 := by
  unfold pRead pEnd
  split
  · split
    · exact pBody_in (i64_num (z' := (pNum _ _).1) rfl)
    · exact mg0_in
  · exact mg0_in
/-- Is it heard? -/
noncomputable def hearB (B : List Mg) (x : Mg × Int) : Bool := decide (x.2 = 0) && (decide (x.1.ki = 3) && (decide (x.1.fee ≠ 0) && (decide (B.length < 16) && !(conM B x.1))))
theorem hearB_y {B : List Mg} {x : Mg} {e : Int} (h1 : e = 0) (h2 : x.ki = 3) (h3 : ¬ x.fee = 0) (h4 : B.length < 16) (h5 : conM B x = false) : hearB B (x, e) = true := by simp [hearB, h1, h2, h3, h4, h5]
theorem hearB_n {B : List Mg} {x : Mg} {e : Int} (h : ¬ e = 0 ∨ ¬ x.ki = 3 ∨ x.fee = 0 ∨ ¬ B.length < 16 ∨ conM B x = true) : hearB B (x, e) = false := by
  unfold hearB
  rcases h with h | h | h | h | h <;> simp [h]
theorem idm_ (ao : Option Addr) (n cap : Nat) (B : List Mg) (v : Mg) (w : World) (hw : Rd w ao (mgc B) ∧ n = B.length ∧ B.length ≤ maxLen ∧ MsIn B ∧ MgIn v) : CSpec Try.prog 90 [.slice ao n cap, .agg v.cells.toArray] [] w (Gives (.int .i64 (idM B v))) := by
  obtain ⟨hr, rfl, hm, hJ, hv⟩ := hw
  have hm9 : B.length ≤ 9223372036854775807 := by unfold maxLen at hm; omega
  have hao : 0 < B.length → ao.isSome = true := fun h => hr.isSome fun e => by
    have h8 := mgc_length B
    rw [e] at h8
    simp at h8
    omega
  refine spec_own0 Try.func90 rfl Try.ntmps90 rfl (l0 := [(0, .slice ao B.length cap), (1, .agg v.cells.toArray)]) rfl ?_
  repeat' first
    | (refine J.qr ?_; (with_reducible apply exq); focus (first
      | ((with_reducible apply Qr.loadFull); exact rfl; (focus ((repeat (first | with_reducible exact In.here | with_reducible apply In.there)); done)); with_reducible exact mg_len _)))
    | (refine J.qo ?_; refine ⟨?_, ?_⟩; focus (first
      | ((with_reducible apply Qr.loadFull); exact rfl; (focus ((repeat (first | with_reducible exact In.here | with_reducible apply In.there)); done)); with_reducible exact mg_len _)))
    | refine J.one ?_
    | refine J.loudS ?_
    | (refine J.loudQ ?_; intro _ _)
    | (refine J.loudB ?_; intro _)
    | (with_reducible apply J.list)
    | ((with_reducible apply J.draw (id := 4) [0, 0, 0, 6, 14, 31] (.q 0 (.p 1 (.p 2 (.p 3 (.q 4 (.p 5 .nil)))))) (by kernel_rfl) ?_ (by kernel_rfl) ?_); (repeat (with_reducible first | exact PanicFree.body | exact PanicFree.np | exact PanicFree.lvS | apply PanicFree.then_ | apply PanicFree.blk)))
    | ((with_reducible apply J.pl2); exact rfl; (first | exact Gd.none | ((with_reducible apply Gd.on); exact rfl; exact rfl)); (repeat (first | (with_reducible exact PendF.nil) | ((with_reducible apply PendF.keep); exact rfl) | ((with_reducible apply PendF.gone); exact rfl))))
    | ((with_reducible apply J.pl2_off); exact rfl; ((with_reducible apply Gd.off); exact rfl; exact rfl; exact rfl); exact rfl; (repeat (first | (with_reducible exact PendF.nil) | ((with_reducible apply PendF.keep); exact rfl) | ((with_reducible apply PendF.gone); exact rfl))))
    | ((with_reducible apply J.pl2_off_none); exact rfl; ((with_reducible apply Gd.off); exact rfl; exact rfl; exact rfl); (repeat (first | (with_reducible exact PendF.nil) | ((with_reducible apply PendF.keep); exact rfl) | ((with_reducible apply PendF.gone); exact rfl))))
    | ((with_reducible first | apply J.psplit0 | apply J.psplit1 | apply J.psplit2); exact rfl; exact rfl; exact rfl)
    | (with_reducible exact J.pl_none)
    | ((with_reducible apply J.gsplit); exact rfl; exact rfl)
    | ((with_reducible first | apply J.cond | apply JC.cond); exact rfl)
    | (intro h; exfalso; fail)
    | (intro h; (try simp only [decide_eq_true_eq, decide_eq_false_iff_not, beq_iff_eq, beq_eq_false_iff_ne, Bool.not_eq_true', Bool.not_eq_false', bne_iff_ne, bne_eq_false_iff_eq, ne_eq, ge_iff_le, gt_iff_lt] at h))
    | (with_reducible apply J.gave')
    | ((with_reducible apply J.kept'); rotate_left; (repeat (first | (with_reducible exact Outs.nil) | ((with_reducible apply Outs.cons); (repeat (first | with_reducible exact Out.here | with_reducible apply Out.there))))))
  rename_i b3
  apply J.loopI (σ := Nat) (I := fun q => (q ≤ B.length ∧ ∀ j, j < q → meq v (B.getD j mg0) = false)) (L := fun q => [(0, .slice ao B.length cap), (3, .pointer (some ⟨b3, 0, none⟩)), (6, .slice ao B.length cap), (7, .int .i64 (B.length : Int)), (8, .int .i64 (q : Int))]) (HH := fun q => [blk b3 v.cells 47]) (m := fun q => B.length - q) (s0 := 0)
  · ((try dsimp only); (exact ⟨Nat.zero_le _, fun j hj => absurd hj (Nat.not_lt_zero _)⟩))
  · ((try dsimp only); repeat (first | exact sub.nil _ | (refine sub.consE rfl ?_ ?_; (first | with_reducible rfl | (fail) | rfl))))
  · ((try dsimp only); (repeat (first | (with_reducible exact Outs.nil) | ((with_reducible apply Outs.cons); (repeat (first | with_reducible exact Out.here | with_reducible apply Out.there))))))
  rintro i ⟨hI, hno⟩
  try dsimp only at *
  rcases Nat.lt_or_ge i B.length with hlt | hge
  · skip
    repeat' first
      | (refine J.qv ?_; (with_reducible apply exq); focus (first
        | ((with_reducible apply Qv.indexSrcs (ao := ao) (k := i)); exact rfl; exact rfl; (focus omega); (focus (constructor <;> omega)); exact hao (by omega))
        | ((with_reducible apply Qv.eqMg); exact rfl; exact rfl; exact hv; exact hJ.get _)))
      | (refine J.qr ?_; (with_reducible apply exq); focus (first
        | ((with_reducible apply Qr.rdN (C := mgc B) (j := i * 43) (cs := (B.getD i mg0).cells)); exact rfl; exact RH.old hr; exact mgc_at (by omega); exact mg_len _)
        | ((with_reducible apply Qr.loadFull); exact rfl; (focus ((repeat (first | with_reducible exact In.here | with_reducible apply In.there)); done)); with_reducible exact mg_len _)))
      | (refine J.qo ?_; refine ⟨?_, ?_⟩; focus (first
        | ((with_reducible apply Qr.rdN (C := mgc B) (j := i * 43) (cs := (B.getD i mg0).cells)); exact rfl; exact RH.old hr; exact mgc_at (by omega); exact mg_len _)
        | ((with_reducible apply Qr.loadFull); exact rfl; (focus ((repeat (first | with_reducible exact In.here | with_reducible apply In.there)); done)); with_reducible exact mg_len _)))
      | refine J.one ?_
      | refine J.loudS ?_
      | (refine J.loudQ ?_; intro _ _)
      | (refine J.loudB ?_; intro _)
      | (with_reducible apply J.list)
      | ((with_reducible apply J.draw (id := 4) [0, 0, 0, 6, 14, 31] (.q 0 (.p 1 (.p 2 (.p 3 (.q 4 (.p 5 .nil)))))) (by kernel_rfl) ?_ (by kernel_rfl) ?_); (repeat (with_reducible first | exact PanicFree.body | exact PanicFree.np | exact PanicFree.lvS | apply PanicFree.then_ | apply PanicFree.blk)))
      | ((with_reducible apply J.pl2); exact rfl; (first | exact Gd.none | ((with_reducible apply Gd.on); exact rfl; exact rfl)); (repeat (first | (with_reducible exact PendF.nil) | ((with_reducible apply PendF.keep); exact rfl) | ((with_reducible apply PendF.gone); exact rfl))))
      | ((with_reducible apply J.pl2_off); exact rfl; ((with_reducible apply Gd.off); exact rfl; exact rfl; exact rfl); exact rfl; (repeat (first | (with_reducible exact PendF.nil) | ((with_reducible apply PendF.keep); exact rfl) | ((with_reducible apply PendF.gone); exact rfl))))
      | ((with_reducible apply J.pl2_off_none); exact rfl; ((with_reducible apply Gd.off); exact rfl; exact rfl; exact rfl); (repeat (first | (with_reducible exact PendF.nil) | ((with_reducible apply PendF.keep); exact rfl) | ((with_reducible apply PendF.gone); exact rfl))))
      | ((with_reducible first | apply J.psplit0 | apply J.psplit1 | apply J.psplit2); exact rfl; exact rfl; exact rfl)
      | (with_reducible exact J.pl_none)
      | ((with_reducible apply J.gsplit); exact rfl; exact rfl)
      | ((with_reducible first | apply J.cond | apply JC.cond); exact rfl)
      | (intro h; exfalso; (first | (simp at h; done) | (simp at h; omega) | omega))
      | (intro h; (try simp only [decide_eq_true_eq, decide_eq_false_iff_not, beq_iff_eq, beq_eq_false_iff_ne, Bool.not_eq_true', Bool.not_eq_false', bne_iff_ne, bne_eq_false_iff_eq, ne_eq, ge_iff_le, gt_iff_lt] at h))
      | (with_reducible apply J.gave')
      | ((with_reducible apply J.kept'); rotate_left; (repeat (first | (with_reducible exact Outs.nil) | ((with_reducible apply Outs.cons); (repeat (first | with_reducible exact Out.here | with_reducible apply Out.there))))))
    all_goals
      first
      | (simp only [retv]; unfold idM; rw [findI_at hlt (by assumption) hno]; done)
      | (apply J.againI (s := i) (s' := (i + 1)); (focus (omega)); (focus ((try dsimp only); exact ⟨by omega, fun j hj => (Nat.lt_or_ge j i).elim (hno j) fun h9 => (show j = i from Nat.le_antisymm (Nat.le_of_lt_succ hj) h9).symm ▸ (by assumption)⟩)); (focus (((try dsimp only); repeat (first | exact sub.nil _ | (refine sub.consE rfl ?_ ?_; (first | with_reducible rfl | ((focus (congr 1; omega))) | rfl)))))); ((try dsimp only); (repeat (first | (with_reducible exact Outs.nil) | ((with_reducible apply Outs.cons); (repeat (first | with_reducible exact Out.here | with_reducible apply Out.there)))))))
      | (trace_state; fail)
  · obtain rfl : i = B.length := by omega
    repeat' first
      | (refine J.qv ?_; (with_reducible apply exq); focus (first
        | ((with_reducible apply Qv.indexSrcs (ao := ao) (k := i)); exact rfl; exact rfl; (focus omega); (focus (constructor <;> omega)); exact hao (by omega))
        | ((with_reducible apply Qv.eqMg); exact rfl; exact rfl; exact hv; exact hJ.get _)))
      | (refine J.qr ?_; (with_reducible apply exq); focus (first
        | ((with_reducible apply Qr.rdN (C := mgc B) (j := i * 43) (cs := (B.getD i mg0).cells)); exact rfl; exact RH.old hr; exact mgc_at (by omega); exact mg_len _)
        | ((with_reducible apply Qr.loadFull); exact rfl; (focus ((repeat (first | with_reducible exact In.here | with_reducible apply In.there)); done)); with_reducible exact mg_len _)))
      | (refine J.qo ?_; refine ⟨?_, ?_⟩; focus (first
        | ((with_reducible apply Qr.rdN (C := mgc B) (j := i * 43) (cs := (B.getD i mg0).cells)); exact rfl; exact RH.old hr; exact mgc_at (by omega); exact mg_len _)
        | ((with_reducible apply Qr.loadFull); exact rfl; (focus ((repeat (first | with_reducible exact In.here | with_reducible apply In.there)); done)); with_reducible exact mg_len _)))
      | refine J.one ?_
      | refine J.loudS ?_
      | (refine J.loudQ ?_; intro _ _)
      | (refine J.loudB ?_; intro _)
      | (with_reducible apply J.list)
      | ((with_reducible apply J.draw (id := 4) [0, 0, 0, 6, 14, 31] (.q 0 (.p 1 (.p 2 (.p 3 (.q 4 (.p 5 .nil)))))) (by kernel_rfl) ?_ (by kernel_rfl) ?_); (repeat (with_reducible first | exact PanicFree.body | exact PanicFree.np | exact PanicFree.lvS | apply PanicFree.then_ | apply PanicFree.blk)))
      | ((with_reducible apply J.pl2); exact rfl; (first | exact Gd.none | ((with_reducible apply Gd.on); exact rfl; exact rfl)); (repeat (first | (with_reducible exact PendF.nil) | ((with_reducible apply PendF.keep); exact rfl) | ((with_reducible apply PendF.gone); exact rfl))))
      | ((with_reducible apply J.pl2_off); exact rfl; ((with_reducible apply Gd.off); exact rfl; exact rfl; exact rfl); exact rfl; (repeat (first | (with_reducible exact PendF.nil) | ((with_reducible apply PendF.keep); exact rfl) | ((with_reducible apply PendF.gone); exact rfl))))
      | ((with_reducible apply J.pl2_off_none); exact rfl; ((with_reducible apply Gd.off); exact rfl; exact rfl; exact rfl); (repeat (first | (with_reducible exact PendF.nil) | ((with_reducible apply PendF.keep); exact rfl) | ((with_reducible apply PendF.gone); exact rfl))))
      | ((with_reducible first | apply J.psplit0 | apply J.psplit1 | apply J.psplit2); exact rfl; exact rfl; exact rfl)
      | (with_reducible exact J.pl_none)
      | ((with_reducible apply J.gsplit); exact rfl; exact rfl)
      | ((with_reducible first | apply J.cond | apply JC.cond); exact rfl)
      | (intro h; exfalso; (first | (simp at h; done) | (simp at h; omega) | omega))
      | (intro h; (try simp only [decide_eq_true_eq, decide_eq_false_iff_not, beq_iff_eq, beq_eq_false_iff_ne, Bool.not_eq_true', Bool.not_eq_false', bne_iff_ne, bne_eq_false_iff_eq, ne_eq, ge_iff_le, gt_iff_lt] at h))
      | (with_reducible apply J.gave')
      | ((with_reducible apply J.kept'); rotate_left; (repeat (first | (with_reducible exact Outs.nil) | ((with_reducible apply Outs.cons); (repeat (first | with_reducible exact Out.here | with_reducible apply Out.there))))))
    all_goals
      first
      | (simp only [retv]; unfold idM; rw [findI_none hno]; done)
      | (trace_state; fail)
theorem con_ (ao : Option Addr) (n cap : Nat) (B : List Mg) (v : Mg) (w : World) (hw : Rd w ao (mgc B) ∧ n = B.length ∧ B.length ≤ maxLen ∧ MsIn B ∧ MgIn v) : CSpec Try.prog 54 [.slice ao n cap, .agg v.cells.toArray] [] w (Gives (.bool (conM B v))) := by
  obtain ⟨hr, hn, hm, hJ, hv⟩ := hw
  refine spec_own0 Try.func54 rfl Try.ntmps54 rfl (l0 := [(0, .slice ao n cap), (1, .agg v.cells.toArray)]) rfl ?_
  repeat' first
    | (refine J.qr ?_; (with_reducible apply exq); focus (first
      | ((with_reducible apply Qr.loadFull); exact rfl; (focus ((repeat (first | with_reducible exact In.here | with_reducible apply In.there)); done)); with_reducible exact mg_len _)))
    | ((with_reducible apply J.givesR (idm_ _ _ _ B v)); exact rfl; exact rfl; focus (exact RH.and (RH.old hr) (RH.of ⟨hn, hm, hJ, hv⟩)))
    | refine J.one ?_
    | refine J.loudS ?_
    | (refine J.loudQ ?_; intro _ _)
    | (refine J.loudB ?_; intro _)
    | (with_reducible apply J.list)
    | ((with_reducible apply J.gsplit); exact rfl; exact rfl)
    | ((with_reducible first | apply J.cond | apply JC.cond); exact rfl)
    | (intro h; exfalso; fail)
    | (intro h; (try simp only [decide_eq_true_eq, decide_eq_false_iff_not, beq_iff_eq, beq_eq_false_iff_ne, Bool.not_eq_true', Bool.not_eq_false', bne_iff_ne, bne_eq_false_iff_eq, ne_eq, ge_iff_le, gt_iff_lt] at h))
    | (with_reducible apply J.gave')
    | ((with_reducible apply J.kept'); rotate_left; (repeat (first | (with_reducible exact Outs.nil) | ((with_reducible apply Outs.cons); (repeat (first | with_reducible exact Out.here | with_reducible apply Out.there))))))
  all_goals ((simp only [retv]; unfold conM; first | rfl | (congr 1; simp)))
end Go.Proofs.Ytfcaeifpclpnoaa.Rly
