/-
  What each of the laws begins with. No conditions.
-/
import Derived.Test.YtljbedladifgmaaGreatQSam
namespace Go.Proofs.YtljbedladifgmaaGreat.Alv
open Go Go.RowKit Eng
set_option linter.unusedVariables false
set_option maxRecDepth 100000
set_option linter.unusedSimpArgs false
open Wide Purse Tx Sha Ss Esc Vau Lck Do Prep Ful Doo Tri App Inn Low Gene Pln Plx Sam Deal Mss Ots Hash Bytes
set_option maxHeartbeats 1000000
section
variable {P : Program} {c : Cx} {l : TL} {H : List Asrt} {Q : Exit → Act → World → Prop} {X : Act → World → Prop}
variable {ty : TypeId} {pos : String} {af : Array Edge} {d : Nat} {v : Value} {dst : Option Tmp} {mm : Nat}
theorem J.apE {f : Nat} [i : Eng.Enters P f] {xs : List Operand} {ts : Array TypeId} {vs : List Value} {a : Ap} {pre : World → Prop} (hS : ∀ w, pre w → CSpec P f vs [] w (ApR a)) (hd : Nat.blt d c.n = true) (hx : evs l xs = some vs) (hp : RH c.w0 c.own H pre)
    (K : ∀ q : Option Addr × Nat, a.L.length ≤ q.2 → J c ((d, .tuple #[.agg (a.s.cells (.slice q.1 a.L.length q.2)).toArray, .int .i64 a.e, .bool a.ok]) :: l) (row (.slice q.1 a.L.length q.2) 58 3 a.L.length (lcs a.L) :: H) X) : J c l H (OW P Q ⟨some d, .call ⟨.value (.func f), xs.toArray, ts⟩, ty, pos, af, none⟩ X) :=
  J.callS hd hx .nil (fun w s => hS w (hp w s)) (fun v H3 ⟨q, hq, h1, h2⟩ => by
    cases h1; subst h2
    exact K q hq) (fun ch H3 ⟨q, _, h1, _⟩ => by cases h1) (fun H3 ⟨q, _, h1, _⟩ => by cases h1)
end
theorem apply_c (s : SS) (ao : Option Addr) (cap : Nat) (L : List Lk) (t : Tx) (a : Ap) (h : apF s L t = a) (w : World) (hw : Rd w ao (lcs L) ∧ SOk s ∧ TIn t ∧ L.length + 1 ≤ maxLen ∧ (L.length + 1) * 40 ≤ 140737488355328) : CSpec Tryz.prog 15 [.agg (s.cells (.slice ao L.length cap)).toArray, .agg t.cells.toArray] [] w (ApR a) := h ▸ apply_ s ao cap L t w hw
def alI : List Value := invc 0 [49, 50, 51, 52, 53, 54, 55, 56] 2 0 0 0 [120]
def alT : Tx := ⟨0, 0, 5, 0, 0, 0, [49, 50, 51, 52, 53, 54, 55, 56], 2, 0, 0, 0, [120], 1, 0, 0, []⟩
def alS : SS := ⟨0, 5, upd (fun _ => 1000) 0 999, fun _ => 0, upd (fun _ => 0) 0 1, fun _ => 0, 1⟩
theorem wd_n {n : Int} (h0 : 0 ≤ n) (h1 : n ≤ 10000) : Wd n := by unfold Wd; omega
theorem al_in : TIn alT := ⟨⟨wd_n (by decide) (by decide), wd_n (by decide) (by decide), by decide, by decide, by decide⟩, wd_n (by decide) (by decide)⟩
theorem gen_ok (side time : Int) : SOk (genS side time) := ⟨fun _ => wd_n (n := 1000) (by decide) (by decide), fun _ => wd_n (n := 0) (by decide) (by decide), fun _ => wd_n (n := 0) (by decide) (by decide), wd_n (n := 0) (by decide) (by decide), by
  show 0 ≤ imin (imax time 0) 1099511627776
  unfold imin imax; (repeat' split) <;> omega, by
  show imin (imax time 0) 1099511627776 ≤ 1099511627776
  unfold imin imax; (repeat' split) <;> omega⟩
theorem al_s1 : s1F (genS 0 5) alT = alS := rfl
theorem al_do : (doX (s1F (genS 0 5) alT) [] alT).1 = 32 := by
  rw [doX_5 (by rfl)]
  have e : lockE [] alT = 32 := rfl
  unfold fulX
  rw [if_neg (by rw [e]; decide)]
  exact e
theorem al_ap : apF (genS 0 5) [] alT = ⟨alS, [], 32, true⟩ := by
  unfold apF
  rw [if_pos (by decide), if_pos (by rfl), if_pos ⟨by rfl, by decide⟩, if_neg (by rw [al_do]; decide), al_do, al_s1]
theorem alive12 (w : World) : CSpec Tryz.prog 11 [] [] w (Gives (.bool true)) := by
  refine spec_own0 Tryz.func11 rfl Tryz.ntmps11 rfl (l0 := []) rfl ?_
  repeat' first
    | (refine J.qv ?_; (with_reducible apply exq); focus (first
      | ((with_reducible apply Qv.buildS (T := 46)); exact rfl; (show _ = some (alI)); kernel_rfl)
      | ((with_reducible apply Qv.buildS (T := 48)); exact rfl; (show _ = some (varc 1 0)); kernel_rfl)
      | ((with_reducible apply Qv.buildS (T := 50)); exact rfl; (show _ = some (alT.cells)); kernel_rfl)
      | ((with_reducible apply Qv.buildW); exact rfl; exact rfl; (first | with_reducible assumption | (unfold Wo; omega) | (simp only [Wd, Wo] at *; omega)))
      | ((with_reducible apply Qv.buildW0); exact rfl; exact rfl)
      | ((with_reducible apply Qv.eqlA); exact rfl; exact rfl; kernel_rfl; (refine weq _ _ (And.intro ?_ ?_) <;> exact wd_n (by decide) (by decide)))
      | ((with_reducible apply Qv.idxNo); exact rfl; exact rfl; (constructor <;> decide))))
    | (refine J.qr ?_; (with_reducible apply exq); focus (first
      | ((with_reducible apply Qr.ldPu); exact rfl; (focus ((repeat (first | with_reducible exact In.here | with_reducible apply In.there)); done)))
      | ((with_reducible apply Qr.ldBu); exact rfl; (focus ((repeat (first | with_reducible exact In.here | with_reducible apply In.there)); done)))
      | ((with_reducible apply Qr.ldNo); exact rfl; (focus ((repeat (first | with_reducible exact In.here | with_reducible apply In.there)); done)); decide)
      | ((with_reducible apply Qr.loadFull); exact rfl; (focus ((repeat (first | with_reducible exact In.here | with_reducible apply In.there)); done)); (with_reducible first | exact SS.len _ _ | exact (rfl : alI.length = 7)))))
    | ((with_reducible apply J.storeFull); exact rfl; exact rfl; (repeat (first | with_reducible exact Upd.here | with_reducible apply Upd.there)); (with_reducible first | exact SS.len _ _ | exact (rfl : alI.length = 7)); (focus (first | (with_reducible exact SS.len _ _) | kernel_rfl)); (first | with_reducible exact SS.ones _ _ _ _ | kernel_rfl))
    | ((with_reducible apply J.givesW (gen_ 0 5)); exact rfl; exact rfl)
    | ((with_reducible apply J.apE (apply_c (genS 0 5) none 0 [] alT _ al_ap)); exact rfl; exact rfl; (exact RH.and RH.nil (RH.of ⟨gen_ok _ _, al_in, by decide, by decide⟩)); intro q9 hq9)
    | ((with_reducible apply J.givesP (of_t _ _ _)); exact rfl; exact rfl; (decide))
    | refine J.one ?_
    | refine J.loudS ?_
    | (refine J.loudQ ?_; intro _ _)
    | (refine J.loudB ?_; intro _)
    | (with_reducible apply J.list)
    | ((with_reducible apply J.gsplit); exact rfl; exact rfl)
    | ((with_reducible first | apply J.cond | apply JC.cond); exact rfl)
    | (intro h; exfalso; (first | (simp [alS, upd] at h; done) | (simp at h; done)))
    | (intro h; (try simp only [decide_eq_true_eq, decide_eq_false_iff_not, beq_iff_eq, beq_eq_false_iff_ne, Bool.not_eq_true', Bool.not_eq_false', bne_iff_ne, bne_eq_false_iff_eq, ne_eq, ge_iff_le, gt_iff_lt] at h))
    | (with_reducible apply J.gave')
    | ((with_reducible apply J.kept'); rotate_left; (first | exact outs_au | fail))
  all_goals first
    | rfl
    | (trace_state; fail)
end Go.Proofs.YtljbedladifgmaaGreat.Alv
