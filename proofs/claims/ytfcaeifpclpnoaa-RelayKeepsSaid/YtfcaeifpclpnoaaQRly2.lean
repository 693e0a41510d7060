/-
  A relayer: it hears. No conditions.
-/
import Derived.Test.YtfcaeifpclpnoaaQRly
namespace Go.Proofs.Ytfcaeifpclpnoaa.Rly2
open Go Go.RowKit Eng
set_option linter.unusedVariables false
set_option maxRecDepth 100000
set_option linter.unusedSimpArgs false
open Sha Iter Hash Bytes Hsum Wide Tx Field Deal Msg Fld Fld2 Unw Fld3 Cas Rdr Mch Mpt Mrd Ots Rly
set_option maxHeartbeats 2000000
theorem rnew_  (w : World) (hw : True) : CSpec Try.prog 18 [] [] w (FreshP (fun p => [blk p [.slice none 0 0, .bool true] 99])) := by
  refine spec_own0 Try.func18 rfl Try.ntmps18 rfl (l0 := []) rfl ?_
  repeat' first
    | (refine J.qv ?_; (with_reducible apply exq); focus (first
      | ((with_reducible apply Qv.buildS (T := 99)); exact rfl; exact (show _ = some [.slice none 0 0, .bool true] from rfl))))
    | refine J.one ?_
    | refine J.loudS ?_
    | (refine J.loudQ ?_; intro _ _)
    | (refine J.loudB ?_; intro _)
    | (with_reducible apply J.list)
    | ((with_reducible apply J.gsplit); exact rfl; exact rfl)
    | ((with_reducible first | apply J.cond | apply JC.cond); exact rfl)
    | (intro h; exfalso; fail)
    | (intro h; (try simp only [decide_eq_true_eq, decide_eq_false_iff_not, beq_iff_eq, beq_eq_false_iff_ne, Bool.not_eq_true', Bool.not_eq_false', bne_iff_ne, bne_eq_false_iff_eq, ne_eq, ge_iff_le, gt_iff_lt] at h))
    | (with_reducible apply J.gave')
    | ((with_reducible apply J.kept'); rotate_left; (repeat (first | (with_reducible exact Outs.nil) | ((with_reducible apply Outs.cons); (repeat (first | with_reducible exact Out.here | with_reducible apply Out.there))))))
  all_goals ((rename_i p; exact J.post ⟨p, rfl, rfl⟩ (.cons .here .nil)))
theorem count_ (r n : Nat) (q : Option Addr × Nat) (w : World) : CSpec Try.prog 21 [.pointer (some ⟨r, 0, none⟩)] [blk r [.slice q.1 n q.2, .bool true] 99] w (Keeps (.int .i64 (n : Int)) [blk r [.slice q.1 n q.2, .bool true] 99]) := by
  refine spec_of Try.func21 rfl Try.ntmps21 rfl (l0 := [(0, .pointer (some ⟨r, 0, none⟩))]) rfl ?_
  intro fp
  repeat' first
    | (refine J.qr ?_; (with_reducible apply exq); focus (first
      | ((with_reducible apply Qr.load1); exact rfl; (focus ((repeat (first | with_reducible exact In.here | with_reducible apply In.there)); done)); exact rfl)))
    | refine J.one ?_
    | refine J.loudS ?_
    | (refine J.loudQ ?_; intro _ _)
    | (refine J.loudB ?_; intro _)
    | (with_reducible apply J.list)
    | ((with_reducible apply J.gsplit); exact rfl; exact rfl)
    | ((with_reducible first | apply J.cond | apply JC.cond); exact rfl)
    | (intro h; exfalso; (simp at h; done))
    | (intro h; (try simp only [decide_eq_true_eq, decide_eq_false_iff_not, beq_iff_eq, beq_eq_false_iff_ne, Bool.not_eq_true', Bool.not_eq_false', bne_iff_ne, bne_eq_false_iff_eq, ne_eq, ge_iff_le, gt_iff_lt] at h))
    | (with_reducible apply J.gave')
    | ((with_reducible apply J.kept'); rotate_left; (repeat (first | (with_reducible exact Outs.nil) | ((with_reducible apply Outs.cons); (repeat (first | with_reducible exact Out.here | with_reducible apply Out.there))))))
  all_goals (rfl)
/-- What it comes to. -/
def HearR (r : Nat) (B : List Mg) (q : Option Addr × Nat) (l : List UInt8) : Ending → List Asrt → Prop := fun e H => (hearB B (pRead l) = true ∧ ∃ x : Option Addr × Nat, e = .returned (.bool true) ∧ H = [blk r [.slice x.1 (B ++ [(pRead l).1]).length x.2, .bool true] 99, row (.slice x.1 (B ++ [(pRead l).1]).length x.2) 47 43 (B ++ [(pRead l).1]).length (mgc (B ++ [(pRead l).1]))]) ∨ (hearB B (pRead l) = false ∧ e = .returned (.bool false) ∧ H = [blk r [.slice q.1 B.length q.2, .bool true] 99, row (.slice q.1 B.length q.2) 47 43 B.length (mgc B)])
section
variable {P : Program} {c : Cx} {lt : TL} {H R : List Asrt} {Q : Exit → Act → World → Prop} {X : Act → World → Prop}
variable {ty : TypeId} {pos : String} {af : Array Edge} {d : Nat} {r : Nat} {B : List Mg} {q qb : Option Addr × Nat} {l : List UInt8}
theorem J.hear {f : Nat} [i : Eng.Enters P f] {xs : List Operand} {ts : Array TypeId} {vs : List Value} (hS : ∀ w, CSpec P f vs [blk r [.slice q.1 B.length q.2, .bool true] 99, row (.slice q.1 B.length q.2) 47 43 B.length (mgc B), row (.slice qb.1 l.length qb.2) 5 1 l.length (bcs l)] w (HearR r B q l)) (hd : Nat.blt d c.n = true) (hx : evs lt xs = some vs) (ho : Outs [blk r [.slice q.1 B.length q.2, .bool true] 99, row (.slice q.1 B.length q.2) 47 43 B.length (mgc B), row (.slice qb.1 l.length qb.2) 5 1 l.length (bcs l)] H R)
    (K : hearB B (pRead l) = true → ∀ x : Option Addr × Nat, J c ((d, .bool true) :: lt) (blk r [.slice x.1 (B ++ [(pRead l).1]).length x.2, .bool true] 99 :: row (.slice x.1 (B ++ [(pRead l).1]).length x.2) 47 43 (B ++ [(pRead l).1]).length (mgc (B ++ [(pRead l).1])) :: R) X)
    (K2 : hearB B (pRead l) = false → J c ((d, .bool false) :: lt) (blk r [.slice q.1 B.length q.2, .bool true] 99 :: row (.slice q.1 B.length q.2) 47 43 B.length (mgc B) :: R) X) : J c lt H (OW P Q ⟨some d, .call ⟨.value (.func f), xs.toArray, ts⟩, ty, pos, af, none⟩ X) :=
  J.callS hd hx ho (fun w s => hS w) (fun v' H3 h => by
    rcases h with ⟨h0, x, h1, h2⟩ | ⟨h0, h1, h2⟩
    · cases h1; subst h2; exact K h0 x
    · cases h1; subst h2; exact K2 h0) (fun ch H3 h => by rcases h with ⟨h0, x, h1, h2⟩ | ⟨h0, h1, h2⟩ <;> cases h1) (fun H3 h => by rcases h with ⟨h0, x, h1, h2⟩ | ⟨h0, h1, h2⟩ <;> cases h1)
theorem J.endHy {v : Value} {x : Option Addr × Nat} (h0 : hearB B (pRead l) = true) (hv : v = .bool true) (ho : Outs [blk r [.slice x.1 (B ++ [(pRead l).1]).length x.2, .bool true] 99, row (.slice x.1 (B ++ [(pRead l).1]).length x.2) 47 43 (B ++ [(pRead l).1]).length (mgc (B ++ [(pRead l).1]))] H R) : J c lt H (fun _ w => ∃ H3, HearR r B q l (.returned v) H3 ∧ Sat c.w0 c.own H3 w) := by
  subst hv
  exact J.post (R := HearR r B q l) (.inl ⟨h0, x, rfl, rfl⟩) ho
theorem J.endHn {v : Value} (h0 : hearB B (pRead l) = false) (hv : v = .bool false) (ho : Outs [blk r [.slice q.1 B.length q.2, .bool true] 99, row (.slice q.1 B.length q.2) 47 43 B.length (mgc B)] H R) : J c lt H (fun _ w => ∃ H3, HearR r B q l (.returned v) H3 ∧ Sat c.w0 c.own H3 w) := by
  subst hv
  exact J.post (R := HearR r B q l) (.inr ⟨h0, rfl, rfl⟩) ho
end
theorem mg_one (m : Mg) : m.cells.length = 1 * 43 := rfl
theorem mread_c (ao : Option Addr) (n cap : Nat) (l : List UInt8) (x : Mg × Int) (ex : pRead l = x) (w : World) (hw : Rd w ao (bcs l) ∧ n = l.length ∧ n ≤ cap) : CSpec Try.prog 53 [.slice ao n cap] [] w (Gives (.tuple #[.agg x.1.cells.toArray, .int .i64 x.2])) := ex ▸ mread_ ao n cap l w hw
theorem hear_ (r : Nat) (B : List Mg) (q qb : Option Addr × Nat) (l : List UInt8) (hB : MsIn B) (hl : B.length ≤ 16) (hqb : l.length ≤ qb.2) (w : World) : CSpec Try.prog 20 [.pointer (some ⟨r, 0, none⟩), .slice qb.1 l.length qb.2] [blk r [.slice q.1 B.length q.2, .bool true] 99, row (.slice q.1 B.length q.2) 47 43 B.length (mgc B), row (.slice qb.1 l.length qb.2) 5 1 l.length (bcs l)] w (HearR r B q l) := by
  obtain ⟨⟨x, e⟩, ex⟩ : ∃ y, pRead l = y := ⟨_, rfl⟩
  have hx : MgIn x := by have h := pRead_in l; rw [ex] at h; exact h
  have hm : B.length ≤ maxLen := by unfold maxLen; omega
  refine spec_of Try.func20 rfl Try.ntmps20 rfl (l0 := [(0, .pointer (some ⟨r, 0, none⟩)), (1, .slice qb.1 l.length qb.2)]) rfl ?_
  intro fp
  repeat' first
    | (refine J.qv ?_; (with_reducible apply exq); focus (first
      | ((with_reducible apply Qv.eqlA); exact rfl; exact rfl; kernel_rfl; (exact fun w => weq x.fee 0 ⟨hx.fee, wd_0⟩ w))))
    | (refine J.qr ?_; (with_reducible apply exq); focus (first
      | ((with_reducible apply Qr.load1); exact rfl; (focus ((repeat (first | with_reducible exact In.here | with_reducible apply In.there)); done)); exact rfl)
      | ((with_reducible apply Qr.load1); exact rfl; (focus ((repeat (first | with_reducible exact In.here | with_reducible apply In.there)); done)); with_reducible exact mg_ki _)
      | ((with_reducible apply Qr.loadN); exact rfl; (focus ((repeat (first | with_reducible exact In.here | with_reducible apply In.there)); done)); (with_reducible exact mg_fee _); with_reducible exact wv_length _)
      | ((with_reducible apply Qr.loadFull); exact rfl; (focus ((repeat (first | with_reducible exact In.here | with_reducible apply In.there)); done)); with_reducible exact mg_len _)))
    | (refine J.qo ?_; refine ⟨?_, ?_⟩; focus (first
      | ((with_reducible apply Qr.load1); exact rfl; (focus ((repeat (first | with_reducible exact In.here | with_reducible apply In.there)); done)); exact rfl)
      | ((with_reducible apply Qr.load1); exact rfl; (focus ((repeat (first | with_reducible exact In.here | with_reducible apply In.there)); done)); with_reducible exact mg_ki _)
      | ((with_reducible apply Qr.loadN); exact rfl; (focus ((repeat (first | with_reducible exact In.here | with_reducible apply In.there)); done)); (with_reducible exact mg_fee _); with_reducible exact wv_length _)
      | ((with_reducible apply Qr.loadFull); exact rfl; (focus ((repeat (first | with_reducible exact In.here | with_reducible apply In.there)); done)); with_reducible exact mg_len _)))
    | ((with_reducible apply J.storeFull); exact rfl; exact rfl; (repeat (first | with_reducible exact Upd.here | with_reducible apply Upd.there)); (with_reducible exact mg_len _); (focus (first | (with_reducible exact mg_len _) | kernel_rfl)); with_reducible exact mg_ones _)
    | ((with_reducible apply J.build1); exact rfl; exact rfl; (with_reducible exact mg_len _); kernel_rfl; exact rfl; exact rfl; intro b9)
    | ((with_reducible apply J.appendR); exact rfl; exact rfl; (repeat (first | with_reducible exact Out.here | with_reducible apply Out.there)); exact rfl; exact RH.blk0 (by (repeat (first | with_reducible exact In.here | with_reducible apply In.there))); (with_reducible exact mg_one _); exact rfl; exact rfl; exact rfl; (unfold maxLen; omega); (omega); intro q8 hq8)
    | ((with_reducible apply J.store1); exact rfl; exact rfl; exact rfl; (repeat (first | with_reducible exact Upd.here | with_reducible apply Upd.there)); exact (show _ = [.slice q8.1 (B.length + 1) q8.2, .bool true] from rfl); (show 0 + 1 ≤ 2; decide))
    | ((with_reducible apply J.givesR (mread_c _ _ _ l (x, e) ex)); exact rfl; exact rfl; (focus (exact RH.and (RH.row (by (repeat (first | with_reducible exact In.here | with_reducible apply In.there)))) (RH.of ⟨rfl, hqb⟩))))
    | ((with_reducible apply J.givesR (con_ _ _ _ B x)); exact rfl; exact rfl; (focus (exact RH.and (RH.row (by (repeat (first | with_reducible exact In.here | with_reducible apply In.there)))) (RH.of ⟨rfl, hm, hB, hx⟩))))
    | refine J.one ?_
    | refine J.loudS ?_
    | (refine J.loudQ ?_; intro _ _)
    | (refine J.loudB ?_; intro _)
    | (with_reducible apply J.list)
    | ((with_reducible apply J.draw (id := 2) [0, 1, 3, 7, 15, 31, 63, 127, 255, 511, 1023, 2047, 4095, 8191, 16383, 32767, 65535, 131071, 262143, 524287, 1048575, 524287, 4194303, 8388607, 16777215, 33554431, 67108863, 134217727, 268435455, 536870911, 1073741823, 2147483647, 4294967295, 8589934591, 17179869183, 34359738367, 68719476735, 8589934591, 274877906943, 549755813887] (.p 0 (.p 1 (.p 2 (.p 3 (.p 4 (.p 5 (.q 6 (.p 7 (.p 8 (.p 9 (.p 10 (.p 11 (.p 12 (.p 13 (.p 14 (.q 15 (.p 16 (.p 17 (.p 18 (.p 19 (.q 20 (.p 21 (.p 22 (.p 23 (.p 24 (.p 25 (.p 26 (.p 27 (.q 28 (.p 29 (.p 30 (.p 31 (.p 32 (.p 33 (.p 34 (.p 35 (.q 36 (.q 37 (.x 38 (.p 39 .nil) .none))))))))))))))))))))))))))))))))))))))) (by kernel_rfl) ?_ (by kernel_rfl) ?_); (repeat (with_reducible first | exact PanicFree.body | exact PanicFree.np | exact PanicFree.lvS | apply PanicFree.then_ | apply PanicFree.blk)))
    | ((with_reducible apply J.draw (id := 4) [0, 0, 2, 6, 14, 0, 32, 126, 255, 511, 1023] (.p 0 (.p 1 (.p 2 (.p 3 (.q 4 (.q 5 (.x 6 (.x 7 (.p 8 (.p 9 (.x 10 .nil .none))) .none) .none))))))) (by kernel_rfl) ?_ (by kernel_rfl) ?_); (repeat (with_reducible first | exact PanicFree.body | exact PanicFree.np | exact PanicFree.lvS | apply PanicFree.then_ | apply PanicFree.blk)))
    | ((with_reducible apply J.pl2); exact rfl; (first | exact Gd.none | ((with_reducible apply Gd.on); exact rfl; exact rfl)); (repeat (first | (with_reducible exact PendF.nil) | ((with_reducible apply PendF.keep); exact rfl) | ((with_reducible apply PendF.gone); exact rfl))))
    | ((with_reducible apply J.pl2_off); exact rfl; ((with_reducible apply Gd.off); exact rfl; exact rfl; exact rfl); exact rfl; (repeat (first | (with_reducible exact PendF.nil) | ((with_reducible apply PendF.keep); exact rfl) | ((with_reducible apply PendF.gone); exact rfl))))
    | ((with_reducible apply J.pl2_off_none); exact rfl; ((with_reducible apply Gd.off); exact rfl; exact rfl; exact rfl); (repeat (first | (with_reducible exact PendF.nil) | ((with_reducible apply PendF.keep); exact rfl) | ((with_reducible apply PendF.gone); exact rfl))))
    | ((with_reducible first | apply J.psplit0 | apply J.psplit1 | apply J.psplit2); exact rfl; exact rfl; exact rfl)
    | (with_reducible exact J.pl_none)
    | ((with_reducible apply J.gsplit); exact rfl; exact rfl)
    | ((with_reducible first | apply J.cond | apply JC.cond); exact rfl)
    | (intro h; exfalso; (first | (simp at h; done) | (simp at h; omega) | omega))
    | (intro h; (try simp only [decide_eq_true_eq, decide_eq_false_iff_not, beq_iff_eq, beq_eq_false_iff_ne, Bool.not_eq_true', Bool.not_eq_false', bne_iff_ne, bne_eq_false_iff_eq, ne_eq, ge_iff_le, gt_iff_lt] at h))
    | (with_reducible apply J.gave')
    | ((with_reducible apply J.kept'); rotate_left; (repeat (first | (with_reducible exact Outs.nil) | ((with_reducible apply Outs.cons); (repeat (first | with_reducible exact Out.here | with_reducible apply Out.there))))))
  all_goals first
    | (apply J.endHn (by rw [ex]; exact hearB_n (by first | exact .inl (by assumption) | exact .inr (.inl (by assumption)) | exact .inr (.inr (.inl (by assumption))) | exact .inr (.inr (.inr (.inl (by omega)))) | exact .inr (.inr (.inr (.inr (by assumption))))))
       · rfl
       · (repeat (first | (with_reducible exact Outs.nil) | ((with_reducible apply Outs.cons); (repeat (first | with_reducible exact Out.here | with_reducible apply Out.there))))))
    | (have h0 : hearB B (pRead l) = true := by rw [ex]; exact hearB_y (by assumption) (by assumption) (by assumption) (by omega) (by assumption)
       apply J.reB (b := r) (C' := [.slice q8.1 (B ++ [(pRead l).1]).length q8.2, .bool true])
       · (repeat (first | with_reducible exact Upd.here | with_reducible apply Upd.there))
       · (rw [List.length_append]; rfl)
       apply J.reR (E := 47) (v := .slice q8.1 (B.length + 1) q8.2) (n := B.length + 1) (C := mgc B ++ Mg.cells (x, e).1) (v' := .slice q8.1 (B ++ [(pRead l).1]).length q8.2) (n' := (B ++ [(pRead l).1]).length) (C' := mgc (B ++ [(pRead l).1]))
       · (repeat (first | with_reducible exact Upd.here | with_reducible apply Upd.there))
       · (rw [List.length_append]; rfl)
       · (rw [List.length_append]; rfl)
       · (rw [ex]; exact mgc_add B x)
       apply J.endHy (x := q8) h0
       · rfl
       · (repeat (first | (with_reducible exact Outs.nil) | ((with_reducible apply Outs.cons); (repeat (first | with_reducible exact Out.here | with_reducible apply Out.there))))))
    | (trace_state; fail)
end Go.Proofs.Ytfcaeifpclpnoaa.Rly2
