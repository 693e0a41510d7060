/-
  Signatures that may be made once: what is computed. No conditions.
-/
import Derived.Test.YtljbedladifgmaaGreatQAu
import Derived.Test.YtljbedladifgmaaGreatQSha
import Derived.Test.YtljbedladifgmaaGreatQIter
import Derived.Test.YtljbedladifgmaaGreatQSle
import Derived.Test.YtljbedladifgmaaGreatQTx
import Derived.Test.YtljbedladifgmaaGreatQFv
namespace Go.Proofs.YtljbedladifgmaaGreat.Hash
open Go Go.RowKit Eng
set_option linter.unusedVariables false
set_option maxRecDepth 100000
set_option linter.unusedSimpArgs false
open Sha Iter
set_option maxHeartbeats 800000
instance : Byt Tryz.prog 93 5 := ⟨by kernel_rfl, by kernel_rfl⟩
/-- An iterator's value: the closure, with its box. -/
def IterB (fb T : Nat) (v : Value) : Ending → List Asrt → Prop := fun e H => ∃ Bs, e = .returned (.func (.func fb) #[] [.pointer (some ⟨Bs, 0, none⟩)].toArray) ∧ H = [blk Bs [v] T]
section
variable {c : Cx} {l : TL} {H : List Asrt} {Q : Exit → Act → World → Prop} {X : Act → World → Prop} {ty : TypeId} {pos : String} {af : Array Edge} {d : Nat}
theorem J.iterB {P : Program} {f fb T : Nat} {v : Value} [i : Eng.Enters P f] {xs : List Operand} {ts : Array TypeId} {vs : List Value} (hS : ∀ w, CSpec P f vs [] w (IterB fb T v)) (hd : Nat.blt d c.n = true) (hx : evs l xs = some vs)
    (K : ∀ Bs, J c ((d, .func (.func fb) #[] [.pointer (some ⟨Bs, 0, none⟩)].toArray) :: l) (blk Bs [v] T :: H) X) : J c l H (OW P Q ⟨some d, .call ⟨.value (.func f), xs.toArray, ts⟩, ty, pos, af, none⟩ X) :=
  J.call hd hx .nil (fun w _ => hS w) (fun v H3 ⟨Bs, h1, h2⟩ => by cases h1; subst h2; exact K Bs) (fun ch H3 ⟨Bs, h1, _⟩ => by cases h1) (fun H3 ⟨Bs, h1, _⟩ => by cases h1)
end
theorem backward_byte (ao : Option Addr) (n cap : Nat) (w : World) : CSpec Tryz.prog 148 [.slice ao n cap] [] w (IterB 162 93 (.slice ao n cap)) := by
  refine spec_of Tryz.func148 rfl Tryz.ntmps148 rfl (l0 := [(0, .slice ao n cap)]) rfl ?_
  intro fp
  repeat' first
    | refine J.one ?_
    | refine J.loudS ?_
    | (refine J.loudQ ?_; intro _ _)
    | (refine J.loudB ?_; intro _)
    | (with_reducible apply J.list)
    | ((with_reducible apply J.gsplit); exact rfl; exact rfl)
    | ((with_reducible first | apply J.cond | apply JC.cond); exact rfl)
    | (intro h; exfalso; (first | (simp at h; done) | (simp at h; omega)))
    | (intro h; (try simp only [decide_eq_true_eq, decide_eq_false_iff_not, beq_iff_eq, beq_eq_false_iff_ne, Bool.not_eq_true', Bool.not_eq_false', bne_iff_ne, bne_eq_false_iff_eq, ne_eq, ge_iff_le, gt_iff_lt] at h))
    | (with_reducible apply J.gave')
    | ((with_reducible apply J.kept'); rotate_left; (repeat (first | (with_reducible exact Outs.nil) | ((with_reducible apply Outs.cons); (repeat (first | with_reducible exact Out.here | with_reducible apply Out.there))))))
  all_goals ((rename_i Bs; exact J.post ⟨Bs, rfl, rfl⟩ (.cons .here .nil)))
theorem backward_uint64 (ao : Option Addr) (n cap : Nat) (w : World) : CSpec Tryz.prog 176 [.slice ao n cap] [] w (IterB 181 226 (.slice ao n cap)) := by
  refine spec_of Tryz.func176 rfl Tryz.ntmps176 rfl (l0 := [(0, .slice ao n cap)]) rfl ?_
  intro fp
  repeat' first
    | refine J.one ?_
    | refine J.loudS ?_
    | (refine J.loudQ ?_; intro _ _)
    | (refine J.loudB ?_; intro _)
    | (with_reducible apply J.list)
    | ((with_reducible apply J.gsplit); exact rfl; exact rfl)
    | ((with_reducible first | apply J.cond | apply JC.cond); exact rfl)
    | (intro h; exfalso; (first | (simp at h; done) | (simp at h; omega)))
    | (intro h; (try simp only [decide_eq_true_eq, decide_eq_false_iff_not, beq_iff_eq, beq_eq_false_iff_ne, Bool.not_eq_true', Bool.not_eq_false', bne_iff_ne, bne_eq_false_iff_eq, ne_eq, ge_iff_le, gt_iff_lt] at h))
    | (with_reducible apply J.gave')
    | ((with_reducible apply J.kept'); rotate_left; (repeat (first | (with_reducible exact Outs.nil) | ((with_reducible apply Outs.cons); (repeat (first | with_reducible exact Out.here | with_reducible apply Out.there))))))
  all_goals ((rename_i Bs; exact J.post ⟨Bs, rfl, rfl⟩ (.cons .here .nil)))
theorem backward_int (ao : Option Addr) (n cap : Nat) (w : World) : CSpec Tryz.prog 182 [.slice ao n cap] [] w (IterB 183 23 (.slice ao n cap)) := by
  refine spec_of Tryz.func182 rfl Tryz.ntmps182 rfl (l0 := [(0, .slice ao n cap)]) rfl ?_
  intro fp
  repeat' first
    | refine J.one ?_
    | refine J.loudS ?_
    | (refine J.loudQ ?_; intro _ _)
    | (refine J.loudB ?_; intro _)
    | (with_reducible apply J.list)
    | ((with_reducible apply J.gsplit); exact rfl; exact rfl)
    | ((with_reducible first | apply J.cond | apply JC.cond); exact rfl)
    | (intro h; exfalso; (first | (simp at h; done) | (simp at h; omega)))
    | (intro h; (try simp only [decide_eq_true_eq, decide_eq_false_iff_not, beq_iff_eq, beq_eq_false_iff_ne, Bool.not_eq_true', Bool.not_eq_false', bne_iff_ne, bne_eq_false_iff_eq, ne_eq, ge_iff_le, gt_iff_lt] at h))
    | (with_reducible apply J.gave')
    | ((with_reducible apply J.kept'); rotate_left; (repeat (first | (with_reducible exact Outs.nil) | ((with_reducible apply Outs.cons); (repeat (first | with_reducible exact Out.here | with_reducible apply Out.there))))))
  all_goals ((rename_i Bs; exact J.post ⟨Bs, rfl, rfl⟩ (.cons .here .nil)))
theorem sizes {size : Nat} (h : size ≤ 8) : imin (imax (size : Int) 0) 8 = (size : Int) := by unfold imin imax; split <;> split <;> omega
/-- The octets that are there with k rounds to go. -/
def part (n size k : Nat) (j : Nat) : Value := if k ≤ j then .int .u8 ((n / 256 ^ (size - 1 - j) % 256 : Nat) : Int) else .int .u8 0
theorem part_put {n size k : Nat} (hk : k < size) : tab (fun j => if j = k then Value.int .u8 ((n / 256 ^ (size - (k + 1)) % 256 : Nat) : Int) else part n size (k + 1) j) size = tab (part n size k) size := by
  refine tab_same fun j hj => ?_
  unfold part
  by_cases h : j = k
  · subst h
    rw [if_pos rfl, if_pos (Nat.le_refl _)]
    congr 5
    omega
  · rw [if_neg h]
    by_cases h2 : k ≤ j
    · rw [if_pos (by omega), if_pos h2]
    · rw [if_neg (by omega), if_neg h2]
theorem wr8 {n : Nat} : IntKind.u8.wrap (n : Int) = ((n % 256 : Nat) : Int) := by
  simp [IntKind.wrap, IntKind.signed, IntKind.bits]
theorem shr8 {n size k : Nat} (hk : k < size) : ((n / 256 ^ (size - (k + 1)) : Nat) : Int).fdiv (2 ^ 8) = ((n / 256 ^ (size - k) : Nat) : Int) := by
  rw [Int.fdiv_eq_ediv_of_nonneg _ (by decide)]
  have e : size - k = size - (k + 1) + 1 := by omega
  rw [e, Nat.pow_succ, ← Nat.div_div_eq_div_mul]
  generalize n / 256 ^ (size - (k + 1)) = q
  omega
theorem divs (n k : Nat) : n / 256 ^ k ≤ n := Nat.div_le_self _ _
theorem num_ (n size : Nat) (w : World) (hw : n ≤ 9223372036854775807 ∧ size ≤ 8) : CSpec Tryz.prog 122 [.int .i64 (n : Int), .int .i64 (size : Int)] [] w (Fresh 5 1 size (bcs (num n size)) []) := by
  have hdv := fun k => divs n k
  refine spec_ownM Tryz.func122 rfl Tryz.ntmps122 rfl (l0 := [(0, .int .i64 (n : Int)), (1, .int .i64 (size : Int))]) rfl ?_
  refine J.noPanic ?_
  repeat' first
    | (refine J.qv ?_; (with_reducible apply exq); focus (first
      | ((with_reducible apply Qv.shr); exact rfl; exact rfl; (first | decide | omega); exact shr8 hk)
      | ((with_reducible apply Qv.conv); exact rfl; exact wr8)
      | ((with_reducible apply Qv.indexBlk (b := b)); exact rfl; exact rfl; (constructor <;> omega); exact rfl)))
    | ((with_reducible apply J.makeSlice (len := size)); exact rfl; exact rfl; exact rfl; exact sizes hw.2; exact sizes hw.2; omega; decide; intro _)
    | ((with_reducible apply J.store1); exact rfl; exact rfl; exact rfl; (repeat (first | with_reducible exact Upd.here | with_reducible apply Upd.there)); exact tab_put (k := k) (by simp) hk; (rw [tab_length]; omega))
    | ((with_reducible apply J.iterB (backward_byte _ _ _)); exact rfl; exact rfl; intro _)
    | refine J.one ?_
    | refine J.loudS ?_
    | (refine J.loudQ ?_; intro _ _)
    | (refine J.loudB ?_; intro _)
    | (with_reducible apply J.list)
    | ((with_reducible apply J.gsplit); exact rfl; exact rfl)
    | ((with_reducible first | apply J.cond | apply JC.cond); exact rfl)
    | (intro h; exfalso; fail)
    | (intro h; (try simp only [decide_eq_true_eq, decide_eq_false_iff_not, beq_iff_eq, beq_eq_false_iff_ne, Bool.not_eq_true', Bool.not_eq_false', bne_iff_ne, bne_eq_false_iff_eq, ne_eq, ge_iff_le, gt_iff_lt] at h))
    | (with_reducible apply J.gave')
    | ((with_reducible apply J.kept'); rotate_left; (repeat (first | (with_reducible exact Outs.nil) | ((with_reducible apply Outs.cons); (repeat (first | with_reducible exact Out.here | with_reducible apply Out.there))))))
  rename_i p2 b p5 Bs
  have e0 : n = n / 256 ^ (size - size) := by simp
  have e1 : tab (fun _ => Value.int .u8 0) size = tab (part n size size) size := tab_same fun j hj => by unfold part; rw [if_neg (by omega)]
  rw [e1]
  apply J.reB (b := p2) (C' := [.int .i64 ((n / 256 ^ (size - size) : Nat) : Int)])
  · (repeat (first | with_reducible exact Upd.here | with_reducible apply Upd.there))
  · rw [← e0]
  apply J.rangeG (ps := [13, 14]) (back_byte Bs b size size (fun _ => 0) (by simp only [maxLen]; omega)) (fun _ (_ : Unit) => True) (fun k _ => [blk b (tab (part n size k) size) 5, blk p5 [.slice (some ⟨b, 0, none⟩) size size] 93, blk p2 [.int .i64 ((n / 256 ^ (size - k) : Nat) : Int)] 3, blk Bs [.slice (some ⟨b, 0, none⟩) size size] 93]) [falseA] (fun k => [(6, .int .i64 (k : Int)), (5, .pointer (some ⟨p5, 0, none⟩)), (2, .pointer (some ⟨p2, 0, none⟩))]) ()
  case hg => rfl
  case hps => rfl
  case hlen => exact fun k => rfl
  case hF => exact fun k _ W _ s => ⟨s.cell (.tail _ (.tail _ (.tail _ (.head _)))) rfl, fun j hj hlt => s.cell (.head _) (by subst hj; rw [tab_get hlt]; unfold part; rw [if_neg (by omega)])⟩
  case hI => trivial
  case ho => ((try dsimp only); (repeat (first | (with_reducible exact Outs.nil) | ((with_reducible apply Outs.cons); (repeat (first | with_reducible exact Out.here | with_reducible apply Out.there))))))
  case hm => kernel_rfl
  case hka => rfl
  case hkb => rfl
  case hassign =>
    intro k A
    try dsimp only [putSl]
    repeat' first
      | (refine J.qv ?_; (with_reducible apply exq); focus (first
        | ((with_reducible apply Qv.shr); exact rfl; exact rfl; (first | decide | omega); exact shr8 hk)
        | ((with_reducible apply Qv.conv); exact rfl; exact wr8)
        | ((with_reducible apply Qv.indexBlk (b := b)); exact rfl; exact rfl; (constructor <;> omega); exact rfl)))
      | ((with_reducible apply J.makeSlice (len := size)); exact rfl; exact rfl; exact rfl; exact sizes hw.2; exact sizes hw.2; omega; decide; intro _)
      | ((with_reducible apply J.store1); exact rfl; exact rfl; exact rfl; (repeat (first | with_reducible exact Upd.here | with_reducible apply Upd.there)); exact tab_put (k := k) (by simp) hk; (rw [tab_length]; omega))
      | ((with_reducible apply J.iterB (backward_byte _ _ _)); exact rfl; exact rfl; intro _)
      | refine J.one ?_
      | refine J.loudS ?_
      | (refine J.loudQ ?_; intro _ _)
      | (refine J.loudB ?_; intro _)
      | (with_reducible apply J.list)
      | ((with_reducible apply J.gsplit); exact rfl; exact rfl)
      | ((with_reducible first | apply J.cond | apply JC.cond); exact rfl)
      | (intro h; exfalso; fail)
      | (intro h; (try simp only [decide_eq_true_eq, decide_eq_false_iff_not, beq_iff_eq, beq_eq_false_iff_ne, Bool.not_eq_true', Bool.not_eq_false', bne_iff_ne, bne_eq_false_iff_eq, ne_eq, ge_iff_le, gt_iff_lt] at h))
      | (with_reducible apply J.gave')
      | ((with_reducible apply J.kept'); rotate_left; (repeat (first | (with_reducible exact Outs.nil) | ((with_reducible apply Outs.cons); (repeat (first | with_reducible exact Out.here | with_reducible apply Out.there))))))
    all_goals ((try dsimp only); apply J.stE; ((try dsimp only); repeat (first | exact sub.nil _ | (refine sub.consE rfl ?_ ?_; (first | with_reducible rfl | (fail) | rfl)))))
  case hbody =>
    rintro ll D rc k ⟨⟩ hk _
    try dsimp only at *
    repeat' first
      | (refine J.qv ?_; (with_reducible apply exq); focus (first
        | ((with_reducible apply Qv.shr); exact rfl; exact rfl; (first | decide | omega); exact shr8 hk)
        | ((with_reducible apply Qv.conv); exact rfl; exact wr8)
        | ((with_reducible apply Qv.indexBlk (b := b)); exact rfl; exact rfl; (constructor <;> omega); exact rfl)))
      | ((with_reducible apply J.makeSlice (len := size)); exact rfl; exact rfl; exact rfl; exact sizes hw.2; exact sizes hw.2; omega; decide; intro _)
      | ((with_reducible apply J.store1); exact rfl; exact rfl; exact rfl; (repeat (first | with_reducible exact Upd.here | with_reducible apply Upd.there)); exact tab_put (k := k) (by simp) hk; (rw [tab_length]; omega))
      | ((with_reducible apply J.iterB (backward_byte _ _ _)); exact rfl; exact rfl; intro _)
      | refine J.one ?_
      | refine J.loudS ?_
      | (refine J.loudQ ?_; intro _ _)
      | (refine J.loudB ?_; intro _)
      | (with_reducible apply J.list)
      | ((with_reducible apply J.gsplit); exact rfl; exact rfl)
      | ((with_reducible first | apply J.cond | apply JC.cond); exact rfl)
      | (intro h; exfalso; fail)
      | (intro h; (try simp only [decide_eq_true_eq, decide_eq_false_iff_not, beq_iff_eq, beq_eq_false_iff_ne, Bool.not_eq_true', Bool.not_eq_false', bne_iff_ne, bne_eq_false_iff_eq, ne_eq, ge_iff_le, gt_iff_lt] at h))
      | (with_reducible apply J.gave')
      | ((with_reducible apply J.kept'); rotate_left; (repeat (first | (with_reducible exact Outs.nil) | ((with_reducible apply Outs.cons); (repeat (first | with_reducible exact Out.here | with_reducible apply Out.there))))))
    all_goals
      first
      | (rw [part_put hk]
         apply J.lvN () trivial
         (dsimp only [List.cons_append, List.nil_append]; (repeat (first | (with_reducible exact Outs.nil) | ((with_reducible apply Outs.cons); (repeat (first | with_reducible exact Out.here | with_reducible apply Out.there)))))))
      | (trace_state; fail)
  case hdone =>
    rintro ⟨⟩ _ D
    try dsimp only at *
    repeat' first
      | (refine J.qv ?_; (with_reducible apply exq); focus (first
        | ((with_reducible apply Qv.shr); exact rfl; exact rfl; (first | decide | omega); exact shr8 hk)
        | ((with_reducible apply Qv.conv); exact rfl; exact wr8)
        | ((with_reducible apply Qv.indexBlk (b := b)); exact rfl; exact rfl; (constructor <;> omega); exact rfl)))
      | ((with_reducible apply J.makeSlice (len := size)); exact rfl; exact rfl; exact rfl; exact sizes hw.2; exact sizes hw.2; omega; decide; intro _)
      | ((with_reducible apply J.store1); exact rfl; exact rfl; exact rfl; (repeat (first | with_reducible exact Upd.here | with_reducible apply Upd.there)); exact tab_put (k := k) (by simp) hk; (rw [tab_length]; omega))
      | ((with_reducible apply J.iterB (backward_byte _ _ _)); exact rfl; exact rfl; intro _)
      | refine J.one ?_
      | refine J.loudS ?_
      | (refine J.loudQ ?_; intro _ _)
      | (refine J.loudB ?_; intro _)
      | (with_reducible apply J.list)
      | ((with_reducible apply J.gsplit); exact rfl; exact rfl)
      | ((with_reducible first | apply J.cond | apply JC.cond); exact rfl)
      | (intro h; exfalso; fail)
      | (intro h; (try simp only [decide_eq_true_eq, decide_eq_false_iff_not, beq_iff_eq, beq_eq_false_iff_ne, Bool.not_eq_true', Bool.not_eq_false', bne_iff_ne, bne_eq_false_iff_eq, ne_eq, ge_iff_le, gt_iff_lt] at h))
      | (with_reducible apply J.gave')
      | ((with_reducible apply J.kept'); rotate_left; (repeat (first | (with_reducible exact Outs.nil) | ((with_reducible apply Outs.cons); (repeat (first | with_reducible exact Out.here | with_reducible apply Out.there))))))
    all_goals
      first
      | (exact J.freshBlk (by (repeat (first | with_reducible exact Out.here | with_reducible apply Out.there))) (by rw [num_tab]; refine tab_same fun j hj => ?_; unfold part; rw [if_pos (Nat.zero_le _)]) (by rw [bcs_length, num_length]; omega) (by simp only [maxLen]; omega))
      | (trace_state; fail)
  case hstop =>
    intro D
    exact J.absurd_ (.there .here)
theorem imin7 {n : Nat} (h : n ≤ 7) : imin (n : Int) 7 = (n : Int) := by unfold imin; split <;> omega
theorem shl8 {a : Nat} (h : a < 281474976710656) : IntKind.i64.wrap ((a : Int) * 2 ^ (min (8 : Int).toNat IntKind.i64.bits)) = ((a * 2 ^ 8 : Nat) : Int) := by
  have e : min (8 : Int).toNat IntKind.i64.bits = 8 := by decide
  rw [e]
  exact wr64 (by omega) (by omega) (by omega)
theorem int_ (ao : Option Addr) (n cap : Nat) (l : List UInt8) (w : World) (hw : Rd w ao (bcs l) ∧ n = l.length ∧ n ≤ cap ∧ l.length ≤ 7) : CSpec Tryz.prog 152 [.slice ao n cap] [] w (Gives (.int .i64 (be l : Int))) := by
  obtain ⟨hr, rfl, hc, h7⟩ := hw
  refine spec_own0 Tryz.func152 rfl Tryz.ntmps152 rfl (l0 := [(0, .slice ao l.length cap)]) rfl ?_
  repeat' first
    | (refine J.qv ?_; (with_reducible apply exq); focus (first
      | ((with_reducible apply Qv.sliceTo (k := l.length)); exact rfl; exact rfl; exact imin7 h7; exact hc)
      | ((with_reducible apply Qv.shl); exact rfl; exact rfl; decide; exact shl8 (be_48 (by omega)))
      | ((with_reducible apply Qv.or); exact rfl; exact rfl)))
    | (refine J.qr ?_; (with_reducible apply exq); focus (first
      | ((with_reducible apply Qr.indexRd (k := i) (C := bcs l)); exact rfl; exact rfl; exact rfl; (first | omega | (rw [bcs_length] at *; omega)); exact RH.old hr; (rw [bcs_length]; omega))
      | ((with_reducible apply Qr.rd1 (C := bcs l)); exact rfl; exact RH.old hr; (rw [Nat.mul_one]; exact bcs_get (oc_get (by omega))))))
    | refine J.one ?_
    | refine J.loudS ?_
    | (refine J.loudQ ?_; intro _ _)
    | (refine J.loudB ?_; intro _)
    | (with_reducible apply J.list)
    | ((with_reducible apply J.gsplit); exact rfl; exact rfl)
    | ((with_reducible first | apply J.cond | apply JC.cond); exact rfl)
    | (intro h; exfalso; (first | (simp at h; done) | (simp at h; omega) | omega))
    | (intro h; (try simp only [decide_eq_true_eq, decide_eq_false_iff_not, beq_iff_eq, beq_eq_false_iff_ne, Bool.not_eq_true', Bool.not_eq_false', bne_iff_ne, bne_eq_false_iff_eq, ne_eq, ge_iff_le, gt_iff_lt] at h))
    | (with_reducible apply J.gave')
    | ((with_reducible apply J.kept'); rotate_left; (repeat (first | (with_reducible exact Outs.nil) | ((with_reducible apply Outs.cons); (repeat (first | with_reducible exact Out.here | with_reducible apply Out.there))))))
  apply J.loopI (σ := Nat) (I := fun q => (q ≤ l.length)) (L := fun q => [(10, .slice ao l.length cap), (11, .int .i64 (l.length : Int)), (12, .int .i64 (q : Int)), (3, .int .i64 (be (l.take q) : Int))]) (HH := fun q => []) (m := fun q => l.length - q) (s0 := 0)
  · ((try dsimp only); (exact Nat.zero_le _))
  · ((try dsimp only); repeat (first | exact sub.nil _ | (refine sub.consE rfl ?_ ?_; (first | with_reducible rfl | (fail) | rfl))))
  · ((try dsimp only); (repeat (first | (with_reducible exact Outs.nil) | ((with_reducible apply Outs.cons); (repeat (first | with_reducible exact Out.here | with_reducible apply Out.there))))))
  rintro i hI
  try dsimp only at hI ⊢
  have hb := (oc l i).toNat_lt
  repeat' first
    | (refine J.qv ?_; (with_reducible apply exq); focus (first
      | ((with_reducible apply Qv.sliceTo (k := l.length)); exact rfl; exact rfl; exact imin7 h7; exact hc)
      | ((with_reducible apply Qv.shl); exact rfl; exact rfl; decide; exact shl8 (be_48 (by omega)))
      | ((with_reducible apply Qv.or); exact rfl; exact rfl)))
    | (refine J.qr ?_; (with_reducible apply exq); focus (first
      | ((with_reducible apply Qr.indexRd (k := i) (C := bcs l)); exact rfl; exact rfl; exact rfl; (first | omega | (rw [bcs_length] at *; omega)); exact RH.old hr; (rw [bcs_length]; omega))
      | ((with_reducible apply Qr.rd1 (C := bcs l)); exact rfl; exact RH.old hr; (rw [Nat.mul_one]; exact bcs_get (oc_get (by omega))))))
    | refine J.one ?_
    | refine J.loudS ?_
    | (refine J.loudQ ?_; intro _ _)
    | (refine J.loudB ?_; intro _)
    | (with_reducible apply J.list)
    | ((with_reducible apply J.gsplit); exact rfl; exact rfl)
    | ((with_reducible first | apply J.cond | apply JC.cond); exact rfl)
    | (intro h; exfalso; (first | (simp at h; done) | (simp at h; omega) | omega))
    | (intro h; (try simp only [decide_eq_true_eq, decide_eq_false_iff_not, beq_iff_eq, beq_eq_false_iff_ne, Bool.not_eq_true', Bool.not_eq_false', bne_iff_ne, bne_eq_false_iff_eq, ne_eq, ge_iff_le, gt_iff_lt] at h))
    | (with_reducible apply J.gave')
    | ((with_reducible apply J.kept'); rotate_left; (repeat (first | (with_reducible exact Outs.nil) | ((with_reducible apply Outs.cons); (repeat (first | with_reducible exact Out.here | with_reducible apply Out.there))))))
  all_goals
    first
    | (have e0 : i = l.length := by omega
       subst e0
       simp only [retv, List.take_length]
       done)
    | (rw [or_low (by have := (oc l i).toNat_lt; omega) (by have := be_48 (l := l) (i := i) (by omega); have := (oc l i).toNat_lt; omega), ← be_take (by omega)]
       (apply J.againI (s := i) (s' := (i + 1)); (focus (omega)); (focus ((try dsimp only); omega)); (focus (((try dsimp only); repeat (first | exact sub.nil _ | (refine sub.consE rfl ?_ ?_; (first | with_reducible rfl | ((focus (congr 1; omega))) | rfl)))))); ((try dsimp only); (repeat (first | (with_reducible exact Outs.nil) | ((with_reducible apply Outs.cons); (repeat (first | with_reducible exact Out.here | with_reducible apply Out.there))))))))
    | (trace_state; fail)
theorem conv_neg {n : Nat} (h1 : 1 ≤ n) (h2 : n ≤ 31) : IntKind.u64.wrap (-(n : Int)) = 18446744073709551616 - (n : Int) := by
  simp [IntKind.wrap, IntKind.signed, IntKind.bits]
  omega
theorem and31 {n : Nat} (h1 : 1 ≤ n) (h2 : n ≤ 31) : andI .u64 (18446744073709551616 - (n : Int)) 31 = ((32 - n : Nat) : Int) :=
  and_low (k := 5) (by omega) (by omega) (by decide) (by omega)
theorem sub32 {n : Nat} (h1 : 1 ≤ n) (h2 : n ≤ 31) : IntKind.u64.wrap (32 - ((32 - n : Nat) : Int)) = (n : Int) := wru64 (by omega) (by omega) (by omega)
theorem neg64 {n : Nat} (h2 : n ≤ 31) : IntKind.i64.wrap (0 - (n : Int)) = -(n : Int) := wr64 (by omega) (by omega) (by omega)
theorem rotl (x : W32) (n : Nat) (h : 1 ≤ n ∧ n ≤ 31) (w : World) : CSpec Tryz.prog 169 [u32 x, .int .i64 (-(n : Int))] [] w (Gives (u32 (ror x n))) := by
  refine spec_of Tryz.func169 rfl Tryz.ntmps169 rfl (l0 := [(0, u32 x), (1, .int .i64 (-(n : Int)))]) rfl ?_
  intro fp
  repeat' first
    | (refine J.qv ?_; (with_reducible apply exq); focus (first
      | ((with_reducible apply Qv.conv); exact rfl; exact conv_neg h.1 h.2)
      | ((with_reducible apply Qv.andE); exact rfl; exact rfl; exact and31 h.1 h.2)
      | ((with_reducible apply Qv.shlB (n := 32 - n)); exact rfl; exact rfl; exact rfl; omega)
      | ((with_reducible apply Qv.sub); exact rfl; exact rfl; exact sub32 h.1 h.2)
      | ((with_reducible apply Qv.shrB (n := n)); exact rfl; exact rfl; exact rfl; omega)))
    | refine J.one ?_
    | refine J.loudS ?_
    | (refine J.loudQ ?_; intro _ _)
    | (refine J.loudB ?_; intro _)
    | (with_reducible apply J.list)
    | ((with_reducible apply J.gsplit); exact rfl; exact rfl)
    | ((with_reducible first | apply J.cond | apply JC.cond); exact rfl)
    | (intro h; exfalso; (first | (simp at h; done) | (simp at h; omega)))
    | (intro h; (try simp only [decide_eq_true_eq, decide_eq_false_iff_not, beq_iff_eq, beq_eq_false_iff_ne, Bool.not_eq_true', Bool.not_eq_false', bne_iff_ne, bne_eq_false_iff_eq, ne_eq, ge_iff_le, gt_iff_lt] at h))
    | (with_reducible apply J.gave')
    | ((with_reducible apply J.kept'); rotate_left; (repeat (first | (with_reducible exact Outs.nil) | ((with_reducible apply Outs.cons); (repeat (first | with_reducible exact Out.here | with_reducible apply Out.there))))))
  all_goals (rfl)
theorem Qv.neg {P : Program} {m : Nat} {l : TL} {T : Nat} {x : Operand} {k : IntKind} {e z : Int} (hx : ev l x = some (.int k e)) (hz : k.wrap (0 - e) = z) : Qv P m l (.unOp .neg T x) (.int k z) := fun a w _ _ _ _ s => by
  rw [Int.zero_sub] at hz
  simp [execOp, s.ev hx, Op.unary, Op.intArith, hz]
theorem rotr (x : W32) (n : Nat) (h : 1 ≤ n ∧ n ≤ 31) (w : World) : CSpec Tryz.prog 163 [u32 x, .int .i64 (n : Int)] [] w (Gives (u32 (ror x n))) := by
  refine spec_of Tryz.func163 rfl Tryz.ntmps163 rfl (l0 := [(0, u32 x), (1, .int .i64 (n : Int))]) rfl ?_
  intro fp
  repeat' first
    | (refine J.qv ?_; (with_reducible apply exq); focus (first
      | ((with_reducible apply Qv.neg); exact rfl; exact neg64 h.2)))
    | ((with_reducible apply J.givesP (rotl _ _)); exact rfl; exact rfl; exact h)
    | refine J.one ?_
    | refine J.loudS ?_
    | (refine J.loudQ ?_; intro _ _)
    | (refine J.loudB ?_; intro _)
    | (with_reducible apply J.list)
    | ((with_reducible apply J.gsplit); exact rfl; exact rfl)
    | ((with_reducible first | apply J.cond | apply JC.cond); exact rfl)
    | (intro h; exfalso; (first | (simp at h; done) | (simp at h; omega)))
    | (intro h; (try simp only [decide_eq_true_eq, decide_eq_false_iff_not, beq_iff_eq, beq_eq_false_iff_ne, Bool.not_eq_true', Bool.not_eq_false', bne_iff_ne, bne_eq_false_iff_eq, ne_eq, ge_iff_le, gt_iff_lt] at h))
    | (with_reducible apply J.gave')
    | ((with_reducible apply J.kept'); rotate_left; (repeat (first | (with_reducible exact Outs.nil) | ((with_reducible apply Outs.cons); (repeat (first | with_reducible exact Out.here | with_reducible apply Out.there))))))
  all_goals (rfl)
theorem threeS (x : W32) (a b c : Nat) (h : 1 ≤ a ∧ a ≤ 31 ∧ 1 ≤ b ∧ b ≤ 31 ∧ 1 ≤ c ∧ c ≤ 31) (w : World) : CSpec Tryz.prog 153 [u32 x, .int .i64 (a : Int), .int .i64 (b : Int), .int .i64 (c : Int), .bool true] [] w (Gives (u32 (ror x a ^^^ ror x b ^^^ (x >>> c)))) := by
  refine spec_of Tryz.func153 rfl Tryz.ntmps153 rfl (l0 := [(0, u32 x), (1, .int .i64 (a : Int)), (2, .int .i64 (b : Int)), (3, .int .i64 (c : Int)), (4, .bool true)]) rfl ?_
  intro fp
  repeat' first
    | (refine J.qv ?_; (with_reducible apply exq); focus (first
      | ((with_reducible apply Qv.shrB); exact rfl; exact rfl; exact rfl; omega)))
    | ((with_reducible apply J.givesP (rotr _ _)); exact rfl; exact rfl; omega)
    | refine J.one ?_
    | refine J.loudS ?_
    | (refine J.loudQ ?_; intro _ _)
    | (refine J.loudB ?_; intro _)
    | (with_reducible apply J.list)
    | ((with_reducible apply J.draw (id := 2) [0, 0, 3, 0, 0, 31, 63, 0, 0, 384, 1023, 2047] (.p 0 (.p 1 (.p 3 (.p 4 (.p 7 (.p 8 (.p 9 (.x 2 (.x 5 (.p 6 (.p 10 (.p 11 .nil))) .none) .none)))))))) (by kernel_rfl) ?_ (by kernel_rfl) ?_); (repeat (with_reducible first | exact PanicFree.body | exact PanicFree.np | exact PanicFree.lvS | apply PanicFree.then_ | apply PanicFree.blk)))
    | ((with_reducible apply J.pl2); exact rfl; (first | exact Gd.none | ((with_reducible apply Gd.on); exact rfl; exact rfl)); (repeat (first | (with_reducible exact PendF.nil) | ((with_reducible apply PendF.keep); exact rfl) | ((with_reducible apply PendF.gone); exact rfl))))
    | ((with_reducible apply J.pl2_off); exact rfl; ((with_reducible apply Gd.off); exact rfl; exact rfl; exact rfl); exact rfl; (repeat (first | (with_reducible exact PendF.nil) | ((with_reducible apply PendF.keep); exact rfl) | ((with_reducible apply PendF.gone); exact rfl))))
    | ((with_reducible apply J.pl2_off_none); exact rfl; ((with_reducible apply Gd.off); exact rfl; exact rfl; exact rfl); (repeat (first | (with_reducible exact PendF.nil) | ((with_reducible apply PendF.keep); exact rfl) | ((with_reducible apply PendF.gone); exact rfl))))
    | ((with_reducible first | apply J.psplit0 | apply J.psplit1 | apply J.psplit2); exact rfl; exact rfl; exact rfl)
    | (with_reducible exact J.pl_none)
    | ((with_reducible apply J.gsplit); exact rfl; exact rfl)
    | ((with_reducible first | apply J.cond | apply JC.cond); exact rfl)
    | (intro h; exfalso; (first | (simp at h; done) | (simp at h; omega)))
    | (intro h; (try simp only [decide_eq_true_eq, decide_eq_false_iff_not, beq_iff_eq, beq_eq_false_iff_ne, Bool.not_eq_true', Bool.not_eq_false', bne_iff_ne, bne_eq_false_iff_eq, ne_eq, ge_iff_le, gt_iff_lt] at h))
    | (with_reducible apply J.gave')
    | ((with_reducible apply J.kept'); rotate_left; (repeat (first | (with_reducible exact Outs.nil) | ((with_reducible apply Outs.cons); (repeat (first | with_reducible exact Out.here | with_reducible apply Out.there))))))
  all_goals (rfl)
theorem threeT (x : W32) (a b c : Nat) (h : 1 ≤ a ∧ a ≤ 31 ∧ 1 ≤ b ∧ b ≤ 31 ∧ 1 ≤ c ∧ c ≤ 31) (w : World) : CSpec Tryz.prog 153 [u32 x, .int .i64 (a : Int), .int .i64 (b : Int), .int .i64 (c : Int), .bool false] [] w (Gives (u32 (ror x a ^^^ ror x b ^^^ ror x c))) := by
  refine spec_of Tryz.func153 rfl Tryz.ntmps153 rfl (l0 := [(0, u32 x), (1, .int .i64 (a : Int)), (2, .int .i64 (b : Int)), (3, .int .i64 (c : Int)), (4, .bool false)]) rfl ?_
  intro fp
  repeat' first
    | (refine J.qv ?_; (with_reducible apply exq); focus (first
      | ((with_reducible apply Qv.shrB); exact rfl; exact rfl; exact rfl; omega)))
    | ((with_reducible apply J.givesP (rotr _ _)); exact rfl; exact rfl; omega)
    | refine J.one ?_
    | refine J.loudS ?_
    | (refine J.loudQ ?_; intro _ _)
    | (refine J.loudB ?_; intro _)
    | (with_reducible apply J.list)
    | ((with_reducible apply J.draw (id := 2) [0, 0, 3, 0, 0, 31, 63, 0, 0, 384, 1023, 2047] (.p 0 (.p 1 (.p 3 (.p 4 (.p 7 (.p 8 (.p 9 (.x 2 (.x 5 (.p 6 (.p 10 (.p 11 .nil))) .none) .none)))))))) (by kernel_rfl) ?_ (by kernel_rfl) ?_); (repeat (with_reducible first | exact PanicFree.body | exact PanicFree.np | exact PanicFree.lvS | apply PanicFree.then_ | apply PanicFree.blk)))
    | ((with_reducible apply J.pl2); exact rfl; (first | exact Gd.none | ((with_reducible apply Gd.on); exact rfl; exact rfl)); (repeat (first | (with_reducible exact PendF.nil) | ((with_reducible apply PendF.keep); exact rfl) | ((with_reducible apply PendF.gone); exact rfl))))
    | ((with_reducible apply J.pl2_off); exact rfl; ((with_reducible apply Gd.off); exact rfl; exact rfl; exact rfl); exact rfl; (repeat (first | (with_reducible exact PendF.nil) | ((with_reducible apply PendF.keep); exact rfl) | ((with_reducible apply PendF.gone); exact rfl))))
    | ((with_reducible apply J.pl2_off_none); exact rfl; ((with_reducible apply Gd.off); exact rfl; exact rfl; exact rfl); (repeat (first | (with_reducible exact PendF.nil) | ((with_reducible apply PendF.keep); exact rfl) | ((with_reducible apply PendF.gone); exact rfl))))
    | ((with_reducible first | apply J.psplit0 | apply J.psplit1 | apply J.psplit2); exact rfl; exact rfl; exact rfl)
    | (with_reducible exact J.pl_none)
    | ((with_reducible apply J.gsplit); exact rfl; exact rfl)
    | ((with_reducible first | apply J.cond | apply JC.cond); exact rfl)
    | (intro h; exfalso; (first | (simp at h; done) | (simp at h; omega)))
    | (intro h; (try simp only [decide_eq_true_eq, decide_eq_false_iff_not, beq_iff_eq, beq_eq_false_iff_ne, Bool.not_eq_true', Bool.not_eq_false', bne_iff_ne, bne_eq_false_iff_eq, ne_eq, ge_iff_le, gt_iff_lt] at h))
    | (with_reducible apply J.gave')
    | ((with_reducible apply J.kept'); rotate_left; (repeat (first | (with_reducible exact Outs.nil) | ((with_reducible apply Outs.cons); (repeat (first | with_reducible exact Out.here | with_reducible apply Out.there))))))
  all_goals (rfl)
theorem begin_  (w : World) : CSpec Tryz.prog 124 [] [] w (Gives (.agg (st8 st0).toArray)) := by
  refine spec_of Tryz.func124 rfl Tryz.ntmps124 rfl (l0 := []) rfl ?_
  intro fp
  repeat' first
    | refine J.one ?_
    | refine J.loudS ?_
    | (refine J.loudQ ?_; intro _ _)
    | (refine J.loudB ?_; intro _)
    | (with_reducible apply J.list)
    | ((with_reducible apply J.gsplit); exact rfl; exact rfl)
    | ((with_reducible first | apply J.cond | apply JC.cond); exact rfl)
    | (intro h; exfalso; (first | (simp at h; done) | (simp at h; omega)))
    | (intro h; (try simp only [decide_eq_true_eq, decide_eq_false_iff_not, beq_iff_eq, beq_eq_false_iff_ne, Bool.not_eq_true', Bool.not_eq_false', bne_iff_ne, bne_eq_false_iff_eq, ne_eq, ge_iff_le, gt_iff_lt] at h))
    | (with_reducible apply J.gave')
    | ((with_reducible apply J.kept'); rotate_left; (repeat (first | (with_reducible exact Outs.nil) | ((with_reducible apply Outs.cons); (repeat (first | with_reducible exact Out.here | with_reducible apply Out.there))))))
  all_goals (rfl)
theorem keys_  (w : World) : CSpec Tryz.prog 125 [] [] w (Gives (.agg (tab (fun j => u32 (kw j)) 64).toArray)) := by
  refine spec_of Tryz.func125 rfl Tryz.ntmps125 rfl (l0 := []) rfl ?_
  intro fp
  repeat' first
    | refine J.one ?_
    | refine J.loudS ?_
    | (refine J.loudQ ?_; intro _ _)
    | (refine J.loudB ?_; intro _)
    | (with_reducible apply J.list)
    | ((with_reducible apply J.gsplit); exact rfl; exact rfl)
    | ((with_reducible first | apply J.cond | apply JC.cond); exact rfl)
    | (intro h; exfalso; (first | (simp at h; done) | (simp at h; omega)))
    | (intro h; (try simp only [decide_eq_true_eq, decide_eq_false_iff_not, beq_iff_eq, beq_eq_false_iff_ne, Bool.not_eq_true', Bool.not_eq_false', bne_iff_ne, bne_eq_false_iff_eq, ne_eq, ge_iff_le, gt_iff_lt] at h))
    | (with_reducible apply J.gave')
    | ((with_reducible apply J.kept'); rotate_left; (repeat (first | (with_reducible exact Outs.nil) | ((with_reducible apply Outs.cons); (repeat (first | with_reducible exact Out.here | with_reducible apply Out.there))))))
  all_goals (kernel_rfl)
theorem round_ (s : Nat → W32) (k : W32) (w : World) : CSpec Tryz.prog 129 [.agg (st8 s).toArray, u32 k] [] w (Gives (.agg (st8 (rnd1 s k)).toArray)) := by
  refine spec_of Tryz.func129 rfl Tryz.ntmps129 rfl (l0 := [(0, .agg (st8 s).toArray), (1, u32 k)]) rfl ?_
  intro fp
  repeat' first
    | ((with_reducible apply J.givesP (threeS _ _ _ _)); exact rfl; exact rfl; decide)
    | ((with_reducible apply J.givesP (threeT _ _ _ _)); exact rfl; exact rfl; decide)
    | refine J.one ?_
    | refine J.loudS ?_
    | (refine J.loudQ ?_; intro _ _)
    | (refine J.loudB ?_; intro _)
    | (with_reducible apply J.list)
    | ((with_reducible apply J.draw (id := 2) [0, 1, 0, 4, 15, 0, 0, 64, 224, 0, 512, 0, 2048, 7680, 16352, 32767, 0, 131071, 262143] (.p 0 (.q 1 (.p 2 (.p 5 (.p 6 (.q 7 (.p 8 (.p 9 (.p 10 (.p 11 (.q 12 (.p 13 (.p 14 (.p 16 (.x 3 (.p 4 (.p 15 (.p 17 (.p 18 .nil)))) .none))))))))))))))) (by kernel_rfl) ?_ (by kernel_rfl) ?_); (repeat (with_reducible first | exact PanicFree.body | exact PanicFree.np | exact PanicFree.lvS | apply PanicFree.then_ | apply PanicFree.blk)))
    | ((with_reducible apply J.draw (id := 3) [0, 1, 3, 0, 8, 0, 32, 120, 0, 256, 0, 1024, 3840, 8184, 0, 16384, 0, 65536, 245760, 524280, 1048575, 2097151] (.p 0 (.q 1 (.p 3 (.q 4 (.p 5 (.q 6 (.p 7 (.p 8 (.q 9 (.p 10 (.q 11 (.p 12 (.p 13 (.p 14 (.q 15 (.p 16 (.q 17 (.p 18 (.p 19 (.x 2 (.p 20 (.p 21 .nil)) .none)))))))))))))))))))) (by kernel_rfl) ?_ (by kernel_rfl) ?_); (repeat (with_reducible first | exact PanicFree.body | exact PanicFree.np | exact PanicFree.lvS | apply PanicFree.then_ | apply PanicFree.blk)))
    | ((with_reducible apply J.pl2); exact rfl; (first | exact Gd.none | ((with_reducible apply Gd.on); exact rfl; exact rfl)); (repeat (first | (with_reducible exact PendF.nil) | ((with_reducible apply PendF.keep); exact rfl) | ((with_reducible apply PendF.gone); exact rfl))))
    | ((with_reducible apply J.pl2_off); exact rfl; ((with_reducible apply Gd.off); exact rfl; exact rfl; exact rfl); exact rfl; (repeat (first | (with_reducible exact PendF.nil) | ((with_reducible apply PendF.keep); exact rfl) | ((with_reducible apply PendF.gone); exact rfl))))
    | ((with_reducible apply J.pl2_off_none); exact rfl; ((with_reducible apply Gd.off); exact rfl; exact rfl; exact rfl); (repeat (first | (with_reducible exact PendF.nil) | ((with_reducible apply PendF.keep); exact rfl) | ((with_reducible apply PendF.gone); exact rfl))))
    | ((with_reducible first | apply J.psplit0 | apply J.psplit1 | apply J.psplit2); exact rfl; exact rfl; exact rfl)
    | (with_reducible exact J.pl_none)
    | ((with_reducible apply J.gsplit); exact rfl; exact rfl)
    | ((with_reducible first | apply J.cond | apply JC.cond); exact rfl)
    | (intro h; exfalso; (first | (simp at h; done) | (simp at h; omega)))
    | (intro h; (try simp only [decide_eq_true_eq, decide_eq_false_iff_not, beq_iff_eq, beq_eq_false_iff_ne, Bool.not_eq_true', Bool.not_eq_false', bne_iff_ne, bne_eq_false_iff_eq, ne_eq, ge_iff_le, gt_iff_lt] at h))
    | (with_reducible apply J.gave')
    | ((with_reducible apply J.kept'); rotate_left; (repeat (first | (with_reducible exact Outs.nil) | ((with_reducible apply Outs.cons); (repeat (first | with_reducible exact Out.here | with_reducible apply Out.there))))))
  all_goals (rfl)
/-- The words with so many of them read. -/
def wpart (l : List UInt8) (i j : Nat) : W32 := if j < i then word l j else 0
theorem wpart_put {l : List UInt8} {i : Nat} {z : W32} (hi : i < 16) (hz : z = word l i) : tab (fun j => if j = i then u32 z else u32 (wpart l i j)) 64 = tab (fun j => u32 (wpart l (i + 1) j)) 64 := by
  subst hz
  refine tab_same fun j hj => ?_
  unfold wpart
  by_cases h : j = i
  · subst h; rw [if_pos rfl, if_pos (by omega)]
  · rw [if_neg h]
    by_cases h2 : j < i
    · rw [if_pos h2, if_pos (by omega)]
    · rw [if_neg h2, if_neg (by omega)]
theorem wpart_all (l : List UInt8) : tab (fun j => u32 (wpart l 16 j)) 64 = tab (fun j => u32 (sch l 0 j)) 64 := tab_same fun j hj => rfl
theorem sch_put {l : List UInt8} {n : Nat} {z : W32} (hz : z = lo1 (sch l n (n + 14)) + sch l n (n + 9) + lo0 (sch l n (n + 1)) + sch l n n) : tab (fun j => if j = n + 16 then u32 z else u32 (sch l n j)) 64 = tab (fun j => u32 (sch l (n + 1) j)) 64 := by
  subst hz
  refine tab_same fun j hj => ?_
  simp only [sch]
  split <;> rfl
theorem word_of {l : List UInt8} {i : Nat} : BitVec.ofInt 32 ((be ((l.drop (4 * i * 1)).take 4) : Nat) : Int) = word l i := by
  rw [Nat.mul_one, BitVec.ofInt_natCast]
  rfl
theorem zero64 : [Value.int .u32 0, .int .u32 0] = [Value.int .u32 0, .int .u32 0] := rfl
theorem zeros64 (l : List UInt8) : List.replicate 64 (Value.int .u32 0) = tab (fun j => u32 (wpart l 0 j)) 64 := by
  refine tab_eq (by simp) fun k hk => ?_
  rw [List.getElem?_replicate, if_pos hk]
  rfl
theorem schedule_ (ao : Option Addr) (cap : Nat) (l : List UInt8) (w : World) (hw : Rd w ao (bcs l) ∧ l.length = 64 ∧ 64 ≤ cap) : CSpec Tryz.prog 128 [.slice ao 64 cap] [] w (Gives (.agg (tab (fun j => u32 (sch l 48 j)) 64).toArray)) := by
  obtain ⟨hr, hl, hc⟩ := hw
  refine spec_own0 Tryz.func128 rfl Tryz.ntmps128 rfl (l0 := [(0, .slice ao 64 cap)]) rfl ?_
  repeat' first
    | refine J.one ?_
    | refine J.loudS ?_
    | (refine J.loudQ ?_; intro _ _)
    | (refine J.loudB ?_; intro _)
    | (with_reducible apply J.list)
    | ((with_reducible apply J.draw (id := 10) [0, 0, 2, 6, 14, 30, 0, 64, 192, 448, 1022, 0, 2048, 6144, 14336, 30782, 65534, 0, 131072, 393216, 917504, 2097150, 4194303, 8388607] (.p 0 (.p 1 (.p 2 (.p 3 (.q 4 (.p 6 (.p 7 (.p 8 (.q 9 (.p 11 (.p 12 (.p 13 (.q 14 (.p 17 (.p 18 (.p 19 (.q 20 (.x 5 (.p 10 (.x 15 (.p 16 (.p 21 (.p 22 (.x 23 .nil .none)))) .none)) .none)))))))))))))))))) (by kernel_rfl) ?_ (by kernel_rfl) ?_); (repeat (with_reducible first | exact PanicFree.body | exact PanicFree.np | exact PanicFree.lvS | apply PanicFree.then_ | apply PanicFree.blk)))
    | ((with_reducible apply J.pl2); exact rfl; (first | exact Gd.none | ((with_reducible apply Gd.on); exact rfl; exact rfl)); (repeat (first | (with_reducible exact PendF.nil) | ((with_reducible apply PendF.keep); exact rfl) | ((with_reducible apply PendF.gone); exact rfl))))
    | ((with_reducible apply J.pl2_off); exact rfl; ((with_reducible apply Gd.off); exact rfl; exact rfl; exact rfl); exact rfl; (repeat (first | (with_reducible exact PendF.nil) | ((with_reducible apply PendF.keep); exact rfl) | ((with_reducible apply PendF.gone); exact rfl))))
    | ((with_reducible apply J.pl2_off_none); exact rfl; ((with_reducible apply Gd.off); exact rfl; exact rfl; exact rfl); (repeat (first | (with_reducible exact PendF.nil) | ((with_reducible apply PendF.keep); exact rfl) | ((with_reducible apply PendF.gone); exact rfl))))
    | ((with_reducible first | apply J.psplit0 | apply J.psplit1 | apply J.psplit2); exact rfl; exact rfl; exact rfl)
    | (with_reducible exact J.pl_none)
    | ((with_reducible apply J.gsplit); exact rfl; exact rfl)
    | ((with_reducible first | apply J.cond | apply JC.cond); exact rfl)
    | (intro h; exfalso; (first | (simp at h; done) | (simp at h; omega) | omega))
    | (intro h; (try simp only [decide_eq_true_eq, decide_eq_false_iff_not, beq_iff_eq, beq_eq_false_iff_ne, Bool.not_eq_true', Bool.not_eq_false', bne_iff_ne, bne_eq_false_iff_eq, ne_eq, ge_iff_le, gt_iff_lt] at h))
    | (with_reducible apply J.gave')
    | ((with_reducible apply J.kept'); rotate_left; (repeat (first | (with_reducible exact Outs.nil) | ((with_reducible apply Outs.cons); (repeat (first | with_reducible exact Out.here | with_reducible apply Out.there))))))
  rename_i b2 b3
  apply J.reB (b := b3) (C' := tab (fun j => u32 (wpart l 0 j)) 64)
  · (repeat (first | with_reducible exact Upd.here | with_reducible apply Upd.there))
  · exact zeros64 l
  apply J.loopI (σ := Nat) (I := fun q => (q ≤ 16)) (L := fun q => [(0, .slice ao 64 cap), (2, .pointer (some ⟨b2, 0, none⟩)), (3, .pointer (some ⟨b3, 0, none⟩)), (6, .int .i64 (q : Int))]) (HH := fun q => [blk b3 (tab (fun j => u32 (wpart l q j)) 64) 165, blk b2 (List.replicate 64 (.int .u32 0)) 165]) (m := fun q => 16 - q) (s0 := 0)
  · ((try dsimp only); (exact Nat.zero_le _))
  · ((try dsimp only); repeat (first | exact sub.nil _ | (refine sub.consE rfl ?_ ?_; (first | with_reducible rfl | (fail) | rfl))))
  · ((try dsimp only); (repeat (first | (with_reducible exact Outs.nil) | ((with_reducible apply Outs.cons); (repeat (first | with_reducible exact Out.here | with_reducible apply Out.there))))))
  rintro i hI
  try dsimp only at hI ⊢
  repeat' first
    | (refine J.qv ?_; (with_reducible apply exq); focus (first
      | ((with_reducible apply Qv.indexArr); exact rfl; exact rfl; (constructor <;> omega); exact rfl)
      | ((with_reducible apply Qv.sl (p := 4 * i) (r := 4 * i + 4)); exact rfl; exact Bd.some rfl (by omega); exact Bd.some rfl (by omega); omega; omega)
      | ((with_reducible apply Qv.toB); exact rfl)))
    | ((with_reducible apply J.store1); exact rfl; exact rfl; exact rfl; (repeat (first | with_reducible exact Upd.here | with_reducible apply Upd.there)); exact tab_put (k := i) (by omega) (by omega); (rw [tab_length]; omega))
    | ((with_reducible apply J.givesR (int_ _ _ _ ((l.drop (4 * i * 1)).take 4))); exact rfl; exact rfl; focus ((refine RH.and ?_ (RH.of ?_); exact RH.off (RH.old hr) (by omega); (refine ⟨?_, ?_, ?_⟩ <;> (first | (simp; omega) | omega)))))
    | refine J.one ?_
    | refine J.loudS ?_
    | (refine J.loudQ ?_; intro _ _)
    | (refine J.loudB ?_; intro _)
    | (with_reducible apply J.list)
    | ((with_reducible apply J.draw (id := 10) [0, 0, 2, 6, 14, 30, 0, 64, 192, 448, 1022, 0, 2048, 6144, 14336, 30782, 65534, 0, 131072, 393216, 917504, 2097150, 4194303, 8388607] (.p 0 (.p 1 (.p 2 (.p 3 (.q 4 (.p 6 (.p 7 (.p 8 (.q 9 (.p 11 (.p 12 (.p 13 (.q 14 (.p 17 (.p 18 (.p 19 (.q 20 (.x 5 (.p 10 (.x 15 (.p 16 (.p 21 (.p 22 (.x 23 .nil .none)))) .none)) .none)))))))))))))))))) (by kernel_rfl) ?_ (by kernel_rfl) ?_); (repeat (with_reducible first | exact PanicFree.body | exact PanicFree.np | exact PanicFree.lvS | apply PanicFree.then_ | apply PanicFree.blk)))
    | ((with_reducible apply J.pl2); exact rfl; (first | exact Gd.none | ((with_reducible apply Gd.on); exact rfl; exact rfl)); (repeat (first | (with_reducible exact PendF.nil) | ((with_reducible apply PendF.keep); exact rfl) | ((with_reducible apply PendF.gone); exact rfl))))
    | ((with_reducible apply J.pl2_off); exact rfl; ((with_reducible apply Gd.off); exact rfl; exact rfl; exact rfl); exact rfl; (repeat (first | (with_reducible exact PendF.nil) | ((with_reducible apply PendF.keep); exact rfl) | ((with_reducible apply PendF.gone); exact rfl))))
    | ((with_reducible apply J.pl2_off_none); exact rfl; ((with_reducible apply Gd.off); exact rfl; exact rfl; exact rfl); (repeat (first | (with_reducible exact PendF.nil) | ((with_reducible apply PendF.keep); exact rfl) | ((with_reducible apply PendF.gone); exact rfl))))
    | ((with_reducible first | apply J.psplit0 | apply J.psplit1 | apply J.psplit2); exact rfl; exact rfl; exact rfl)
    | (with_reducible exact J.pl_none)
    | ((with_reducible apply J.gsplit); exact rfl; exact rfl)
    | ((with_reducible first | apply J.cond | apply JC.cond); exact rfl)
    | (intro h; exfalso; (first | (simp at h; done) | (simp at h; omega) | omega))
    | (intro h; (try simp only [decide_eq_true_eq, decide_eq_false_iff_not, beq_iff_eq, beq_eq_false_iff_ne, Bool.not_eq_true', Bool.not_eq_false', bne_iff_ne, bne_eq_false_iff_eq, ne_eq, ge_iff_le, gt_iff_lt] at h))
    | (with_reducible apply J.gave')
    | ((with_reducible apply J.kept'); rotate_left; (repeat (first | (with_reducible exact Outs.nil) | ((with_reducible apply Outs.cons); (repeat (first | with_reducible exact Out.here | with_reducible apply Out.there))))))
  · have hq : i < 16 := by omega
    apply J.reB (b := b3) (C' := tab (fun j => u32 (wpart l (i + 1) j)) 64)
    · (repeat (first | with_reducible exact Upd.here | with_reducible apply Upd.there))
    · exact wpart_put hq word_of
    (apply J.againI (s := i) (s' := (i + 1)); (focus (omega)); (focus ((try dsimp only); omega)); (focus (((try dsimp only); repeat (first | exact sub.nil _ | (refine sub.consE rfl ?_ ?_; (first | with_reducible rfl | ((focus (congr 1; omega))) | rfl)))))); ((try dsimp only); (repeat (first | (with_reducible exact Outs.nil) | ((with_reducible apply Outs.cons); (repeat (first | with_reducible exact Out.here | with_reducible apply Out.there)))))))
  have e0 : i = 16 := by omega
  subst e0
  apply J.reB (b := b3) (C' := tab (fun j => u32 (sch l 0 j)) 64)
  · (repeat (first | with_reducible exact Upd.here | with_reducible apply Upd.there))
  · exact wpart_all l
  apply J.loopI (σ := Nat) (I := fun q => (q ≤ 48)) (L := fun q => [(2, .pointer (some ⟨b2, 0, none⟩)), (3, .pointer (some ⟨b3, 0, none⟩)), (5, .int .i64 ((q : Int) + 16))]) (HH := fun q => [blk b3 (tab (fun j => u32 (sch l q j)) 64) 165, blk b2 (List.replicate 64 (.int .u32 0)) 165]) (m := fun q => 48 - q) (s0 := 0)
  · ((try dsimp only); (exact Nat.zero_le _))
  · ((try dsimp only); repeat (first | exact sub.nil _ | (refine sub.consE rfl ?_ ?_; (first | with_reducible rfl | (fail) | rfl))))
  · ((try dsimp only); (repeat (first | (with_reducible exact Outs.nil) | ((with_reducible apply Outs.cons); (repeat (first | with_reducible exact Out.here | with_reducible apply Out.there))))))
  rintro n hJ
  try dsimp only at hJ ⊢
  repeat' first
    | (refine J.qv ?_; (with_reducible apply exq); focus (first
      | ((with_reducible apply Qv.indexArr); exact rfl; exact rfl; (constructor <;> omega); exact rfl)
      | ((with_reducible apply Qv.toB); exact rfl)))
    | (refine J.qr ?_; (with_reducible apply exq); focus (first
      | ((with_reducible apply Qr.load1); exact rfl; (repeat (first | with_reducible exact In.here | with_reducible apply In.there)); exact tab_at rfl (by omega))))
    | (refine J.qo ?_; refine ⟨?_, ?_⟩; focus (first
      | ((with_reducible apply Qr.load1); exact rfl; (repeat (first | with_reducible exact In.here | with_reducible apply In.there)); exact tab_at rfl (by omega))))
    | ((with_reducible apply J.store1); exact rfl; exact rfl; exact rfl; (repeat (first | with_reducible exact Upd.here | with_reducible apply Upd.there)); exact tab_put (k := (n + 16)) (by omega) (by omega); (rw [tab_length]; omega))
    | ((with_reducible apply J.givesP (threeS _ _ _ _)); exact rfl; exact rfl; decide)
    | ((with_reducible apply J.givesP (threeT _ _ _ _)); exact rfl; exact rfl; decide)
    | refine J.one ?_
    | refine J.loudS ?_
    | (refine J.loudQ ?_; intro _ _)
    | (refine J.loudB ?_; intro _)
    | (with_reducible apply J.list)
    | ((with_reducible apply J.draw (id := 10) [0, 0, 2, 6, 14, 30, 0, 64, 192, 448, 1022, 0, 2048, 6144, 14336, 30782, 65534, 0, 131072, 393216, 917504, 2097150, 4194303, 8388607] (.p 0 (.p 1 (.p 2 (.p 3 (.q 4 (.p 6 (.p 7 (.p 8 (.q 9 (.p 11 (.p 12 (.p 13 (.q 14 (.p 17 (.p 18 (.p 19 (.q 20 (.x 5 (.p 10 (.x 15 (.p 16 (.p 21 (.p 22 (.x 23 .nil .none)))) .none)) .none)))))))))))))))))) (by kernel_rfl) ?_ (by kernel_rfl) ?_); (repeat (with_reducible first | exact PanicFree.body | exact PanicFree.np | exact PanicFree.lvS | apply PanicFree.then_ | apply PanicFree.blk)))
    | ((with_reducible apply J.pl2); exact rfl; (first | exact Gd.none | ((with_reducible apply Gd.on); exact rfl; exact rfl)); (repeat (first | (with_reducible exact PendF.nil) | ((with_reducible apply PendF.keep); exact rfl) | ((with_reducible apply PendF.gone); exact rfl))))
    | ((with_reducible apply J.pl2_off); exact rfl; ((with_reducible apply Gd.off); exact rfl; exact rfl; exact rfl); exact rfl; (repeat (first | (with_reducible exact PendF.nil) | ((with_reducible apply PendF.keep); exact rfl) | ((with_reducible apply PendF.gone); exact rfl))))
    | ((with_reducible apply J.pl2_off_none); exact rfl; ((with_reducible apply Gd.off); exact rfl; exact rfl; exact rfl); (repeat (first | (with_reducible exact PendF.nil) | ((with_reducible apply PendF.keep); exact rfl) | ((with_reducible apply PendF.gone); exact rfl))))
    | ((with_reducible first | apply J.psplit0 | apply J.psplit1 | apply J.psplit2); exact rfl; exact rfl; exact rfl)
    | (with_reducible exact J.pl_none)
    | ((with_reducible apply J.gsplit); exact rfl; exact rfl)
    | ((with_reducible first | apply J.cond | apply JC.cond); exact rfl)
    | (intro h; exfalso; (first | (simp at h; done) | (simp at h; omega) | omega))
    | (intro h; (try simp only [decide_eq_true_eq, decide_eq_false_iff_not, beq_iff_eq, beq_eq_false_iff_ne, Bool.not_eq_true', Bool.not_eq_false', bne_iff_ne, bne_eq_false_iff_eq, ne_eq, ge_iff_le, gt_iff_lt] at h))
    | (with_reducible apply J.gave')
    | ((with_reducible apply J.kept'); rotate_left; (repeat (first | (with_reducible exact Outs.nil) | ((with_reducible apply Outs.cons); (repeat (first | with_reducible exact Out.here | with_reducible apply Out.there))))))
  · have hq : n < 48 := by omega
    apply J.reB (b := b3) (C' := tab (fun j => u32 (sch l (n + 1) j)) 64)
    · (repeat (first | with_reducible exact Upd.here | with_reducible apply Upd.there))
    · refine sch_put ?_
      have a1 : 0 + ((n : Int) + 16 - 2).toNat * 1 = n + 14 := by omega
      have a2 : 0 + ((n : Int) + 16 - 7).toNat * 1 = n + 9 := by omega
      have a3 : 0 + ((n : Int) + 16 - 15).toNat * 1 = n + 1 := by omega
      have a4 : 0 + ((n : Int) + 16 - 16).toNat * 1 = n := by omega
      rw [a1, a2, a3, a4]
      rfl
    (apply J.againI (s := n) (s' := (n + 1)); (focus (omega)); (focus ((try dsimp only); omega)); (focus (((try dsimp only); repeat (first | exact sub.nil _ | (refine sub.consE rfl ?_ ?_; (first | with_reducible rfl | ((focus (congr 1; omega))) | rfl)))))); ((try dsimp only); (repeat (first | (with_reducible exact Outs.nil) | ((with_reducible apply Outs.cons); (repeat (first | with_reducible exact Out.here | with_reducible apply Out.there)))))))
  · have e0 : n = 48 := by omega
    subst e0
    simp only [retv]
end Go.Proofs.YtljbedladifgmaaGreat.Hash
namespace Go.Proofs.YtljbedladifgmaaGreat.Bytes
open Go Go.RowKit Eng
set_option linter.unusedVariables false
set_option maxRecDepth 100000
set_option linter.unusedSimpArgs false
open Sha Iter Hash
set_option maxHeartbeats 1000000
theorem clone_bytes (ao : Option Addr) (n cap : Nat) (C : List Value) (w : World) (hw : Rd w ao C ∧ C.length = n * 1 ∧ C.all (·.oneCell') = true ∧ n * 1 ≤ 140737488355328 ∧ n ≤ maxLen) : CSpec Tryz.prog 151 [.slice ao n cap] [] w (Fresh 5 1 n C []) := by
  obtain ⟨hr, hl, ho, hb, hm⟩ := hw
  refine spec_own0 Tryz.func151 rfl Tryz.ntmps151 rfl (l0 := [(0, .slice ao n cap)]) rfl ?_
  repeat' first
    | (refine J.qv ?_; (with_reducible apply exq); focus (first
      | ((with_reducible apply Qv.nilS); exact rfl)))
    | ((with_reducible apply J.buildRow0); exact rfl; intro _)
    | ((with_reducible apply J.appendR); exact rfl; exact rfl; (repeat (first | with_reducible exact Out.here | with_reducible apply Out.there)); exact rfl; exact RH.old hr; exact hl; exact ho; exact rfl; exact rfl; (first | decide | (simp only [maxLen]; omega) | omega); (first | decide | (simp only [maxLen]; omega) | omega); intro _ _)
    | refine J.one ?_
    | refine J.loudS ?_
    | (refine J.loudQ ?_; intro _ _)
    | (refine J.loudB ?_; intro _)
    | (with_reducible apply J.list)
    | ((with_reducible apply J.gsplit); exact rfl; exact rfl)
    | ((with_reducible first | apply J.cond | apply JC.cond); exact rfl)
    | (intro h; exfalso; fail)
    | (intro h; (try simp only [decide_eq_true_eq, decide_eq_false_iff_not, beq_iff_eq, beq_eq_false_iff_ne, Bool.not_eq_true', Bool.not_eq_false', bne_iff_ne, bne_eq_false_iff_eq, ne_eq, ge_iff_le, gt_iff_lt] at h))
    | (with_reducible apply J.gave')
    | ((with_reducible apply J.kept'); rotate_left; (repeat (first | (with_reducible exact Outs.nil) | ((with_reducible apply Outs.cons); (repeat (first | with_reducible exact Out.here | with_reducible apply Out.there))))))
  all_goals
    first
    | (rw [Option.isNone_iff_eq_none] at h
       have e1 : C = [] := hr.1 h
       subst e1
       have e2 : n = 0 := by simp at hl; omega
       subst e2
       refine J.nilRow 5 1 ?_
       (with_reducible apply J.freshRow)
       (repeat (first | with_reducible exact Out.here | with_reducible apply Out.there))
       exact rfl
       exact rfl
       exact rfl)
    | ((with_reducible apply J.freshRow)
       (repeat (first | with_reducible exact Out.here | with_reducible apply Out.there))
       exact rfl
       omega
       exact List.nil_append _)
    | (trace_state; fail)
theorem pad_ (ao : Option Addr) (n cap : Nat) (l : List UInt8) (w : World) (hw : Rd w ao (bcs l) ∧ n = l.length ∧ l.length ≤ 1099511627776) : CSpec Tryz.prog 127 [.slice ao n cap] [] w (Fresh 5 1 (pad l).length (bcs (pad l)) []) := by
  obtain ⟨hr, rfl, hl⟩ := hw
  have hz : padz l.length ≤ 63 := by unfold padz; omega
  refine spec_own0 Tryz.func127 rfl Tryz.ntmps127 rfl (l0 := [(0, .slice ao l.length cap)]) rfl ?_
  repeat' first
    | (refine J.qv ?_; (with_reducible apply exq); focus (first
      | ((with_reducible apply Qv.mul); exact rfl; exact rfl; exact wr64 (z := ((8 * l.length : Nat) : Int)) (by omega) (by omega) (by omega))))
    | ((with_reducible apply J.freshR (clone_bytes _ _ _ (bcs l))); exact rfl; exact rfl; (focus ((refine RH.and ?_ (RH.of ?_); exact RH.old hr; (refine ⟨by rw [bcs_length]; omega, bcs_ones _, ?_, ?_⟩ <;> (first | omega | (simp only [maxLen]; omega)))))); intro _ _)
    | ((with_reducible apply J.freshR (num_ (8 * l.length) 8)); exact rfl; exact rfl; (focus ((refine RH.of ?_; omega))); intro _ _)
    | refine J.one ?_
    | refine J.loudS ?_
    | (refine J.loudQ ?_; intro _ _)
    | (refine J.loudB ?_; intro _)
    | (with_reducible apply J.list)
    | ((with_reducible apply J.gsplit); exact rfl; exact rfl)
    | ((with_reducible first | apply J.cond | apply JC.cond); exact rfl)
    | (intro h; exfalso; (first | (simp at h; done) | (unfold padz at *; omega)))
    | (intro h; (try simp only [decide_eq_true_eq, decide_eq_false_iff_not, beq_iff_eq, beq_eq_false_iff_ne, Bool.not_eq_true', Bool.not_eq_false', bne_iff_ne, bne_eq_false_iff_eq, ne_eq, ge_iff_le, gt_iff_lt] at h))
    | (with_reducible apply J.gave')
    | ((with_reducible apply J.kept'); rotate_left; (repeat (first | (with_reducible exact Outs.nil) | ((with_reducible apply Outs.cons); (repeat (first | with_reducible exact Out.here | with_reducible apply Out.there))))))
  rename_i q1 _ b q _
  apply J.reC (n' := l.length + 1 + 0) (C' := bcs (l ++ [128] ++ List.replicate 0 0))
  · (repeat (first | with_reducible exact Upd.here | with_reducible apply Upd.there))
  · rfl
  · simp [bcs]
  apply J.loopI (σ := (Nat × (Option Addr × Nat))) (I := fun s => (s.1 ≤ padz l.length)) (L := fun s => [(3, .slice s.2.1 (l.length + 1 + s.1) s.2.2), (0, .slice ao l.length cap)]) (HH := fun s => [row (.slice s.2.1 (l.length + 1 + s.1) s.2.2) 5 1 (l.length + 1 + s.1) (bcs (l ++ [128] ++ List.replicate s.1 0))]) (m := fun s => padz l.length - s.1) (s0 := (0, q))
  · ((try dsimp only); (exact Nat.zero_le _))
  · ((try dsimp only); repeat (first | exact sub.nil _ | (refine sub.consE rfl ?_ ?_; (first | with_reducible rfl | (fail) | rfl))))
  · ((try dsimp only); (repeat (first | (with_reducible exact Outs.nil) | ((with_reducible apply Outs.cons); (repeat (first | with_reducible exact Out.here | with_reducible apply Out.there))))))
  rintro ⟨k, q⟩ hI
  try dsimp only at hI ⊢
  repeat' first
    | (refine J.qv ?_; (with_reducible apply exq); focus (first
      | ((with_reducible apply Qv.mul); exact rfl; exact rfl; exact wr64 (z := ((8 * l.length : Nat) : Int)) (by omega) (by omega) (by omega))))
    | ((with_reducible apply J.freshR (clone_bytes _ _ _ (bcs l))); exact rfl; exact rfl; (focus ((refine RH.and ?_ (RH.of ?_); exact RH.old hr; (refine ⟨by rw [bcs_length]; omega, bcs_ones _, ?_, ?_⟩ <;> (first | omega | (simp only [maxLen]; omega)))))); intro _ _)
    | ((with_reducible apply J.freshR (num_ (8 * l.length) 8)); exact rfl; exact rfl; (focus ((refine RH.of ?_; omega))); intro _ _)
    | refine J.one ?_
    | refine J.loudS ?_
    | (refine J.loudQ ?_; intro _ _)
    | (refine J.loudB ?_; intro _)
    | (with_reducible apply J.list)
    | ((with_reducible apply J.gsplit); exact rfl; exact rfl)
    | ((with_reducible first | apply J.cond | apply JC.cond); exact rfl)
    | (intro h; exfalso; (first | (simp at h; done) | (unfold padz at *; omega)))
    | (intro h; (try simp only [decide_eq_true_eq, decide_eq_false_iff_not, beq_iff_eq, beq_eq_false_iff_ne, Bool.not_eq_true', Bool.not_eq_false', bne_iff_ne, bne_eq_false_iff_eq, ne_eq, ge_iff_le, gt_iff_lt] at h))
    | (with_reducible apply J.gave')
    | ((with_reducible apply J.kept'); rotate_left; (repeat (first | (with_reducible exact Outs.nil) | ((with_reducible apply Outs.cons); (repeat (first | with_reducible exact Out.here | with_reducible apply Out.there))))))
  all_goals
    first
    | (have hq : k < padz l.length := by unfold padz at *; omega
       rename_i b2 q2 _
       apply J.reR (v' := .slice q2.1 (l.length + 1 + (k + 1)) q2.2) (n' := l.length + 1 + (k + 1)) (C' := bcs (l ++ [128] ++ List.replicate (k + 1) 0))
       · (repeat (first | with_reducible exact Upd.here | with_reducible apply Upd.there))
       · rfl
       · rfl
       · simp [bcs, List.replicate_succ']
       (apply J.againI (s := (k, q)) (s' := (k + 1, q2)); (focus (omega)); (focus ((try dsimp only); (show k + 1 ≤ padz l.length; omega))); (focus (((try dsimp only); repeat (first | exact sub.nil _ | (refine sub.consE rfl ?_ ?_; (first | with_reducible rfl | (fail) | rfl)))))); ((try dsimp only); (repeat (first | (with_reducible exact Outs.nil) | ((with_reducible apply Outs.cons); (repeat (first | with_reducible exact Out.here | with_reducible apply Out.there))))))))
    | (have hq : k = padz l.length := by unfold padz at *; omega
       subst hq
       ((with_reducible apply J.freshRow); (repeat (first | with_reducible exact Out.here | with_reducible apply Out.there)); exact rfl; (simp [pad, num_length]; omega); exact (bcs_append _ _).symm))
    | (trace_state; fail)
theorem grow_ (n : Nat) (w : World) (hw : n ≤ 140737488355328) : CSpec Tryz.prog 149 [.slice none 0 0, .int .i64 (n : Int)] [] w (Fresh 5 1 0 [] []) := by
  refine spec_own0 Tryz.func149 rfl Tryz.ntmps149 rfl (l0 := [(0, .slice none 0 0), (1, .int .i64 (n : Int))]) rfl ?_
  repeat' first
    | (refine J.qv ?_; (with_reducible apply exq); focus (first
      | ((with_reducible apply Qv.sub); exact rfl; exact rfl; exact wr64 (z := (n : Int)) (by omega) (by omega) (by omega))
      | ((with_reducible apply Qv.sliceTo (k := 0)); exact rfl; exact rfl; exact rfl; omega)))
    | ((with_reducible apply J.appendMake (n := n)); exact rfl; exact rfl; exact rfl; exact rfl; exact rfl; exact rfl; omega; (simp only [maxLen]; omega); omega; intro _ _)
    | refine J.one ?_
    | refine J.loudS ?_
    | (refine J.loudQ ?_; intro _ _)
    | (refine J.loudB ?_; intro _)
    | (with_reducible apply J.list)
    | ((with_reducible apply J.gsplit); exact rfl; exact rfl)
    | ((with_reducible first | apply J.cond | apply JC.cond); exact rfl)
    | (intro h; exfalso; (first | (simp at h; done) | (simp at h; omega) | omega))
    | (intro h; (try simp only [decide_eq_true_eq, decide_eq_false_iff_not, beq_iff_eq, beq_eq_false_iff_ne, Bool.not_eq_true', Bool.not_eq_false', bne_iff_ne, bne_eq_false_iff_eq, ne_eq, ge_iff_le, gt_iff_lt] at h))
    | (with_reducible apply J.gave')
    | ((with_reducible apply J.kept'); rotate_left; (repeat (first | (with_reducible exact Outs.nil) | ((with_reducible apply Outs.cons); (repeat (first | with_reducible exact Out.here | with_reducible apply Out.there))))))
  all_goals
    first
    | (refine J.nilRow 5 1 ?_
       ((with_reducible apply J.freshRow); (repeat (first | with_reducible exact Out.here | with_reducible apply Out.there)); exact rfl; exact rfl; exact rfl))
    | ((with_reducible apply J.freshRow); (repeat (first | with_reducible exact Out.here | with_reducible apply Out.there)); exact rfl; exact rfl; exact rfl)
    | (trace_state; fail)
theorem flat_take {L : List (List UInt8)} {i : Nat} {l : List UInt8} (h : L[i]? = some l) : (L.take (i + 1)).flatten = (L.take i).flatten ++ l := by
  rw [List.take_add_one, h]
  simp
theorem flat_le (L : List (List UInt8)) (i : Nat) : (L.take i).flatten.length ≤ L.flatten.length := by
  have h : L.flatten = (L.take i).flatten ++ (L.drop i).flatten := by rw [← List.flatten_append, List.take_append_drop]
  rw [h, List.length_append]
  omega
theorem flat_len {L : List (List UInt8)} {i : Nat} {l : List UInt8} (h : L[i]? = some l) : (L.take (i + 1)).flatten.length = (L.take i).flatten.length + l.length := by rw [flat_take h, List.length_append]
theorem concat_ (ao : Option Addr) (n cap : Nat) (L : List (List UInt8)) (w : World) (hw : RdS w ao L ∧ n = L.length ∧ L.flatten.length ≤ 1099511627776 ∧ L.length ≤ 1099511627776) : CSpec Tryz.prog 123 [.slice ao n cap] [] w (Fresh 5 1 L.flatten.length (bcs L.flatten) []) := by
  obtain ⟨⟨V, hV, hL⟩, rfl, hf, hn⟩ := hw
  have hVl := hL.length
  refine spec_own0 Tryz.func123 rfl Tryz.ntmps123 rfl (l0 := [(0, .slice ao L.length cap)]) rfl ?_
  repeat' first
    | refine J.one ?_
    | refine J.loudS ?_
    | (refine J.loudQ ?_; intro _ _)
    | (refine J.loudB ?_; intro _)
    | (with_reducible apply J.list)
    | ((with_reducible apply J.gsplit); exact rfl; exact rfl)
    | ((with_reducible first | apply J.cond | apply JC.cond); exact rfl)
    | (intro h; exfalso; fail)
    | (intro h; (try simp only [decide_eq_true_eq, decide_eq_false_iff_not, beq_iff_eq, beq_eq_false_iff_ne, Bool.not_eq_true', Bool.not_eq_false', bne_iff_ne, bne_eq_false_iff_eq, ne_eq, ge_iff_le, gt_iff_lt] at h))
    | (with_reducible apply J.gave')
    | ((with_reducible apply J.kept'); rotate_left; (repeat (first | (with_reducible exact Outs.nil) | ((with_reducible apply Outs.cons); (repeat (first | with_reducible exact Out.here | with_reducible apply Out.there))))))
  apply J.loopI (σ := Nat) (I := fun q => (q ≤ L.length)) (L := fun q => [(0, .slice ao L.length cap), (9, .slice ao L.length cap), (10, .int .i64 (L.length : Int)), (11, .int .i64 (q : Int)), (3, .int .i64 (((L.take q).flatten.length : Nat) : Int))]) (HH := fun q => []) (m := fun q => L.length - q) (s0 := 0)
  · ((try dsimp only); (exact Nat.zero_le _))
  · ((try dsimp only); repeat (first | exact sub.nil _ | (refine sub.consE rfl ?_ ?_; (first | with_reducible rfl | (fail) | rfl))))
  · ((try dsimp only); (repeat (first | (with_reducible exact Outs.nil) | ((with_reducible apply Outs.cons); (repeat (first | with_reducible exact Out.here | with_reducible apply Out.there))))))
  rintro i hI
  try dsimp only at hI ⊢
  have hfl := flat_le L (i + 1)
  have hfi := flat_le L i
  rcases Nat.lt_or_ge i L.length with hlt | hge
  · obtain ⟨bs, hl⟩ : ∃ bs, L[i]? = some bs := ⟨_, List.getElem?_eq_getElem hlt⟩
    obtain ⟨v, hv, ai, ci, rfl, hc, hb⟩ := RdL.get hL hl
    have hfe := flat_len hl
    repeat' first
      | (refine J.qv ?_; (with_reducible apply exq); focus (first
        | ((with_reducible apply Qv.add); exact rfl; exact rfl; exact wr64 (z := (((L.take (i + 1)).flatten.length : Nat) : Int)) (by omega) (by omega) (by rw [flat_len hl]; omega))))
      | (refine J.qr ?_; (with_reducible apply exq); focus (first
        | ((with_reducible apply Qr.indexRd (k := i) (C := V)); exact rfl; exact rfl; exact rfl; omega; exact RH.old hV; omega)
        | ((with_reducible apply Qr.rd1 (C := V)); exact rfl; exact RH.old hV; (rw [Nat.mul_one]; exact hv))))
      | refine J.one ?_
      | refine J.loudS ?_
      | (refine J.loudQ ?_; intro _ _)
      | (refine J.loudB ?_; intro _)
      | (with_reducible apply J.list)
      | ((with_reducible apply J.gsplit); exact rfl; exact rfl)
      | ((with_reducible first | apply J.cond | apply JC.cond); exact rfl)
      | (intro h; exfalso; (first | (simp at h; done) | (simp at h; omega) | omega))
      | (intro h; (try simp only [decide_eq_true_eq, decide_eq_false_iff_not, beq_iff_eq, beq_eq_false_iff_ne, Bool.not_eq_true', Bool.not_eq_false', bne_iff_ne, bne_eq_false_iff_eq, ne_eq, ge_iff_le, gt_iff_lt] at h))
      | (with_reducible apply J.gave')
      | ((with_reducible apply J.kept'); rotate_left; (repeat (first | (with_reducible exact Outs.nil) | ((with_reducible apply Outs.cons); (repeat (first | with_reducible exact Out.here | with_reducible apply Out.there))))))
    all_goals
      first
      | ((apply J.againI (s := i) (s' := (i + 1)); (focus (omega)); (focus ((try dsimp only); omega)); (focus (((try dsimp only); repeat (first | exact sub.nil _ | (refine sub.consE rfl ?_ ?_; (first | with_reducible rfl | ((focus (congr 1; omega))) | rfl)))))); ((try dsimp only); (repeat (first | (with_reducible exact Outs.nil) | ((with_reducible apply Outs.cons); (repeat (first | with_reducible exact Out.here | with_reducible apply Out.there))))))))
      | (trace_state; fail)
  have e0 : i = L.length := by omega
  subst e0
  have e1 : (L.take L.length).flatten.length = L.flatten.length := by rw [List.take_length]
  repeat' first
    | ((with_reducible apply J.freshR (grow_ _)); exact rfl; exact rfl; (focus ((refine RH.of ?_; omega))); intro _ _)
    | refine J.one ?_
    | refine J.loudS ?_
    | (refine J.loudQ ?_; intro _ _)
    | (refine J.loudB ?_; intro _)
    | (with_reducible apply J.list)
    | ((with_reducible apply J.gsplit); exact rfl; exact rfl)
    | ((with_reducible first | apply J.cond | apply JC.cond); exact rfl)
    | (intro h; exfalso; (first | (simp at h; done) | (simp at h; omega) | omega))
    | (intro h; (try simp only [decide_eq_true_eq, decide_eq_false_iff_not, beq_iff_eq, beq_eq_false_iff_ne, Bool.not_eq_true', Bool.not_eq_false', bne_iff_ne, bne_eq_false_iff_eq, ne_eq, ge_iff_le, gt_iff_lt] at h))
    | (with_reducible apply J.gave')
    | ((with_reducible apply J.kept'); rotate_left; (repeat (first | (with_reducible exact Outs.nil) | ((with_reducible apply Outs.cons); (repeat (first | with_reducible exact Out.here | with_reducible apply Out.there))))))
  rename_i q0 _
  apply J.reR (v' := .slice q0.1 ((L.take 0).flatten.length) q0.2) (n' := (L.take 0).flatten.length) (C' := bcs (L.take 0).flatten)
  · (repeat (first | with_reducible exact Upd.here | with_reducible apply Upd.there))
  · rfl
  · rfl
  · rfl
  apply J.loopI (σ := (Nat × (Option Addr × Nat))) (I := fun s => (s.1 ≤ L.length)) (L := fun s => [(6, .slice s.2.1 ((L.take s.1).flatten.length) s.2.2), (25, .slice ao L.length cap), (26, .int .i64 (L.length : Int)), (27, .int .i64 (s.1 : Int))]) (HH := fun s => [row (.slice s.2.1 ((L.take s.1).flatten.length) s.2.2) 5 1 ((L.take s.1).flatten.length) (bcs (L.take s.1).flatten)]) (m := fun s => L.length - s.1) (s0 := (0, q0))
  · ((try dsimp only); (exact Nat.zero_le _))
  · ((try dsimp only); repeat (first | exact sub.nil _ | (refine sub.consE rfl ?_ ?_; (first | with_reducible rfl | (fail) | rfl))))
  · ((try dsimp only); (repeat (first | (with_reducible exact Outs.nil) | ((with_reducible apply Outs.cons); (repeat (first | with_reducible exact Out.here | with_reducible apply Out.there))))))
  rintro ⟨i, q⟩ hI
  try dsimp only at hI ⊢
  have hfl := flat_le L (i + 1)
  have hfi := flat_le L i
  rcases Nat.lt_or_ge i L.length with hlt | hge
  · obtain ⟨bs, hl⟩ : ∃ bs, L[i]? = some bs := ⟨_, List.getElem?_eq_getElem hlt⟩
    obtain ⟨v, hv, ai, ci, rfl, hc, hb⟩ := RdL.get hL hl
    have hfe := flat_len hl
    repeat' first
      | (refine J.qr ?_; (with_reducible apply exq); focus (first
        | ((with_reducible apply Qr.indexRd (k := i) (C := V)); exact rfl; exact rfl; exact rfl; omega; exact RH.old hV; omega)
        | ((with_reducible apply Qr.rd1 (C := V)); exact rfl; exact RH.old hV; (rw [Nat.mul_one]; exact hv))))
      | ((with_reducible apply J.appendR (news := bcs bs)); exact rfl; exact rfl; (repeat (first | with_reducible exact Out.here | with_reducible apply Out.there)); exact rfl; exact RH.old hb; (rw [bcs_length]; omega); exact bcs_ones _; exact rfl; exact rfl; (simp only [maxLen]; omega); omega; intro _ _)
      | refine J.one ?_
      | refine J.loudS ?_
      | (refine J.loudQ ?_; intro _ _)
      | (refine J.loudB ?_; intro _)
      | (with_reducible apply J.list)
      | ((with_reducible apply J.gsplit); exact rfl; exact rfl)
      | ((with_reducible first | apply J.cond | apply JC.cond); exact rfl)
      | (intro h; exfalso; (first | (simp at h; done) | (simp at h; omega) | omega))
      | (intro h; (try simp only [decide_eq_true_eq, decide_eq_false_iff_not, beq_iff_eq, beq_eq_false_iff_ne, Bool.not_eq_true', Bool.not_eq_false', bne_iff_ne, bne_eq_false_iff_eq, ne_eq, ge_iff_le, gt_iff_lt] at h))
      | (with_reducible apply J.gave')
      | ((with_reducible apply J.kept'); rotate_left; (repeat (first | (with_reducible exact Outs.nil) | ((with_reducible apply Outs.cons); (repeat (first | with_reducible exact Out.here | with_reducible apply Out.there))))))
    all_goals
      first
      | (rename_i q2 _
         apply J.reR (v' := .slice q2.1 ((L.take (i + 1)).flatten.length) q2.2) (n' := (L.take (i + 1)).flatten.length) (C' := bcs (L.take (i + 1)).flatten)
         · (repeat (first | with_reducible exact Upd.here | with_reducible apply Upd.there))
         · rw [hfe]
         · rw [hfe]
         · rw [flat_take hl, bcs_append]
         (apply J.againI (s := (i, q)) (s' := (i + 1, q2)); (focus (omega)); (focus ((try dsimp only); (show i + 1 ≤ L.length; omega))); (focus (((try dsimp only); repeat (first | exact sub.nil _ | (refine sub.consE rfl ?_ ?_; (first | with_reducible rfl | ((focus (first | (congr 1; done) | (rw [hfe]; done)))) | rfl)))))); ((try dsimp only); (repeat (first | (with_reducible exact Outs.nil) | ((with_reducible apply Outs.cons); (repeat (first | with_reducible exact Out.here | with_reducible apply Out.there))))))))
      | (trace_state; fail)
  have e0 : i = L.length := by omega
  subst e0
  repeat' first
    | refine J.one ?_
    | refine J.loudS ?_
    | (refine J.loudQ ?_; intro _ _)
    | (refine J.loudB ?_; intro _)
    | (with_reducible apply J.list)
    | ((with_reducible apply J.gsplit); exact rfl; exact rfl)
    | ((with_reducible first | apply J.cond | apply JC.cond); exact rfl)
    | (intro h; exfalso; (first | (simp at h; done) | (simp at h; omega) | omega))
    | (intro h; (try simp only [decide_eq_true_eq, decide_eq_false_iff_not, beq_iff_eq, beq_eq_false_iff_ne, Bool.not_eq_true', Bool.not_eq_false', bne_iff_ne, bne_eq_false_iff_eq, ne_eq, ge_iff_le, gt_iff_lt] at h))
    | (with_reducible apply J.gave')
    | ((with_reducible apply J.kept'); rotate_left; (repeat (first | (with_reducible exact Outs.nil) | ((with_reducible apply Outs.cons); (repeat (first | with_reducible exact Out.here | with_reducible apply Out.there))))))
  all_goals
    first
    | (rw [List.take_length] at *
       ((with_reducible apply J.freshRow); (repeat (first | with_reducible exact Out.here | with_reducible apply Out.there)); exact rfl; exact rfl; exact rfl))
    | (trace_state; fail)
end Go.Proofs.YtljbedladifgmaaGreat.Bytes
namespace Go.Proofs.YtljbedladifgmaaGreat.Hsum
open Go Go.RowKit Eng
set_option linter.unusedVariables false
set_option maxRecDepth 100000
set_option linter.unusedSimpArgs false
open Sha Iter Hash Bytes
set_option maxHeartbeats 1000000
theorem cat_ (ao : Option Addr) (n cap : Nat) (L : List (List UInt8)) (w : World) (hw : RdS w ao L ∧ n = L.length ∧ L.flatten.length ≤ 1099511627776 ∧ L.length ≤ 1099511627776) : CSpec Tryz.prog 100 [.slice ao n cap] [] w (Fresh 5 1 L.flatten.length (bcs L.flatten) []) := by
  obtain ⟨hr, hn, hf, hm⟩ := hw
  refine spec_own0 Tryz.func100 rfl Tryz.ntmps100 rfl (l0 := [(0, .slice ao n cap)]) rfl ?_
  repeat' first
    | ((with_reducible apply J.freshR (concat_ _ _ _ L)); exact rfl; exact rfl; (focus (exact RH.and (RH.sold hr) (RH.of ⟨hn, hf, hm⟩))); intro _ _)
    | refine J.one ?_
    | refine J.loudS ?_
    | (refine J.loudQ ?_; intro _ _)
    | (refine J.loudB ?_; intro _)
    | (with_reducible apply J.list)
    | ((with_reducible apply J.gsplit); exact rfl; exact rfl)
    | ((with_reducible first | apply J.cond | apply JC.cond); exact rfl)
    | (intro h; exfalso; (first | (simp at h; done) | (simp at h; omega)))
    | (intro h; (try simp only [decide_eq_true_eq, decide_eq_false_iff_not, beq_iff_eq, beq_eq_false_iff_ne, Bool.not_eq_true', Bool.not_eq_false', bne_iff_ne, bne_eq_false_iff_eq, ne_eq, ge_iff_le, gt_iff_lt] at h))
    | (with_reducible apply J.gave')
    | ((with_reducible apply J.kept'); rotate_left; (repeat (first | (with_reducible exact Outs.nil) | ((with_reducible apply Outs.cons); (repeat (first | with_reducible exact Out.here | with_reducible apply Out.there))))))
  all_goals (((with_reducible apply J.freshRow); (repeat (first | with_reducible exact Out.here | with_reducible apply Out.there)); exact rfl; exact rfl; exact rfl))
def IterC (v : Value) (k : Int) : Ending → List Asrt → Prop := fun e H => ∃ Bs Bn, e = .returned (.func (.func 150) #[] [.pointer (some ⟨Bs, 0, none⟩), .pointer (some ⟨Bn, 0, none⟩)].toArray) ∧ H = [blk Bs [v] 93, blk Bn [.int .i64 k] 3]
section
variable {c : Cx} {l : TL} {H : List Asrt} {Q : Exit → Act → World → Prop} {X : Act → World → Prop} {ty : TypeId} {pos : String} {af : Array Edge} {d : Nat}
theorem J.iterC {P : Program} {f : Nat} {v : Value} {k : Int} [i : Eng.Enters P f] {xs : List Operand} {ts : Array TypeId} {vs : List Value} {p : Prop} (hS : ∀ w, p → CSpec P f vs [] w (IterC v k)) (hd : Nat.blt d c.n = true) (hx : evs l xs = some vs) (hp : p)
    (K : ∀ Bs Bn, J c ((d, .func (.func 150) #[] [.pointer (some ⟨Bs, 0, none⟩), .pointer (some ⟨Bn, 0, none⟩)].toArray) :: l) (blk Bs [v] 93 :: blk Bn [.int .i64 k] 3 :: H) X) : J c l H (OW P Q ⟨some d, .call ⟨.value (.func f), xs.toArray, ts⟩, ty, pos, af, none⟩ X) :=
  J.call hd hx .nil (fun w _ => hS w hp) (fun v H3 ⟨Bs, Bn, h1, h2⟩ => by cases h1; subst h2; exact K Bs Bn) (fun ch H3 ⟨Bs, Bn, h1, _⟩ => by cases h1) (fun H3 ⟨Bs, Bn, h1, _⟩ => by cases h1)
end
theorem chunkf (ao : Option Addr) (n cap : Nat) (k : Int) (w : World) (hw : 1 ≤ k) : CSpec Tryz.prog 126 [.slice ao n cap, .int .i64 k] [] w (IterC (.slice ao n cap) k) := by
  refine spec_own0 Tryz.func126 rfl Tryz.ntmps126 rfl (l0 := [(0, .slice ao n cap), (1, .int .i64 k)]) rfl ?_
  repeat' first
    | refine J.one ?_
    | refine J.loudS ?_
    | (refine J.loudQ ?_; intro _ _)
    | (refine J.loudB ?_; intro _)
    | (with_reducible apply J.list)
    | ((with_reducible apply J.gsplit); exact rfl; exact rfl)
    | ((with_reducible first | apply J.cond | apply JC.cond); exact rfl)
    | (intro h; exfalso; (first | (simp at h; done) | (simp at h; omega) | omega))
    | (intro h; (try simp only [decide_eq_true_eq, decide_eq_false_iff_not, beq_iff_eq, beq_eq_false_iff_ne, Bool.not_eq_true', Bool.not_eq_false', bne_iff_ne, bne_eq_false_iff_eq, ne_eq, ge_iff_le, gt_iff_lt] at h))
    | (with_reducible apply J.gave')
    | ((with_reducible apply J.kept'); rotate_left; (repeat (first | (with_reducible exact Outs.nil) | ((with_reducible apply Outs.cons); (repeat (first | with_reducible exact Out.here | with_reducible apply Out.there))))))
  all_goals
    first
    | (rename_i Bs Bn
       exact J.post ⟨Bs, Bn, rfl, rfl⟩ (.cons (.there .here) (.cons .here .nil)))
    | (trace_state; fail)
theorem J.rowCap {c : Cx} {l : TL} {H : List Asrt} {G : Act → World → Prop} {m E sz : Nat} {C : List Value} {v : Value} (hm : In (Eng.row v E sz m C) H) (K : (∀ ao n cap, v = .slice ao n cap → cap ≤ maxLen) → J c l H G) : J c l H G := J.mk fun a w s => by
  refine (K fun ao n cap e => ?_).out a w s
  subst e
  exact (s.2.2.rd_row hm).2.2.2.2
theorem sum_ (ao : Option Addr) (n cap : Nat) (l : List UInt8) (w : World) (hw : Rd w ao (bcs l) ∧ n = l.length ∧ l.length ≤ 1099511627776) : CSpec Tryz.prog 101 [.slice ao n cap] [] w (Fresh 5 1 32 (bcs (sha l)) []) := by
  obtain ⟨hr, rfl, hl⟩ := hw
  refine spec_ownM Tryz.func101 rfl Tryz.ntmps101 rfl (l0 := [(0, .slice ao l.length cap)]) rfl ?_
  refine J.noPanic ?_
  repeat' first
    | ((with_reducible apply J.givesW (begin_)); exact rfl; exact rfl)
    | ((with_reducible apply J.givesW (keys_)); exact rfl; exact rfl)
    | ((with_reducible apply J.freshR (pad_ _ _ _ l)); exact rfl; exact rfl; (focus ((exact RH.and (RH.old hr) (RH.of ⟨rfl, hl⟩)))); intro _ _)
    | ((with_reducible apply J.iterC (chunkf _ _ _ 64)); exact rfl; exact rfl; decide; intro _ _)
    | refine J.one ?_
    | refine J.loudS ?_
    | (refine J.loudQ ?_; intro _ _)
    | (refine J.loudB ?_; intro _)
    | (with_reducible apply J.list)
    | ((with_reducible apply JC.draw (id := 9) [0, 0, 2, 6, 0, 30, 63, 127] (.q 0 (.p 1 (.p 2 (.q 3 (.p 4 (.p 5 (.x 6 (.x 7 .nil .none) .none))))))) (by kernel_rfl) ?_ (by kernel_rfl) ?_); (repeat (with_reducible first | exact PanicFree.body | exact PanicFree.np | exact PanicFree.lvS | apply PanicFree.then_ | apply PanicFree.blk)))
    | ((with_reducible apply JC.draw (id := 14) [0, 1, 3, 0, 8, 24, 63, 127, 255] (.p 0 (.p 1 (.q 2 (.p 3 (.p 4 (.q 5 (.p 6 (.p 7 (.x 8 .nil .none))))))))) (by kernel_rfl) ?_ (by kernel_rfl) ?_); (repeat (with_reducible first | exact PanicFree.body | exact PanicFree.np | exact PanicFree.lvS | apply PanicFree.then_ | apply PanicFree.blk)))
    | ((with_reducible apply J.pl2); exact rfl; (first | exact Gd.none | ((with_reducible apply Gd.on); exact rfl; exact rfl)); (repeat (first | (with_reducible exact PendF.nil) | ((with_reducible apply PendF.keep); exact rfl) | ((with_reducible apply PendF.gone); exact rfl))))
    | ((with_reducible apply J.pl2_off); exact rfl; ((with_reducible apply Gd.off); exact rfl; exact rfl; exact rfl); exact rfl; (repeat (first | (with_reducible exact PendF.nil) | ((with_reducible apply PendF.keep); exact rfl) | ((with_reducible apply PendF.gone); exact rfl))))
    | ((with_reducible apply J.pl2_off_none); exact rfl; ((with_reducible apply Gd.off); exact rfl; exact rfl; exact rfl); (repeat (first | (with_reducible exact PendF.nil) | ((with_reducible apply PendF.keep); exact rfl) | ((with_reducible apply PendF.gone); exact rfl))))
    | ((with_reducible first | apply J.psplit0 | apply J.psplit1 | apply J.psplit2); exact rfl; exact rfl; exact rfl)
    | (with_reducible exact J.pl_none)
    | ((with_reducible apply J.gsplit); exact rfl; exact rfl)
    | ((with_reducible first | apply J.cond | apply JC.cond); exact rfl)
    | (intro h; exfalso; fail)
    | (intro h; (try simp only [decide_eq_true_eq, decide_eq_false_iff_not, beq_iff_eq, beq_eq_false_iff_ne, Bool.not_eq_true', Bool.not_eq_false', bne_iff_ne, bne_eq_false_iff_eq, ne_eq, ge_iff_le, gt_iff_lt] at h))
    | (with_reducible apply J.gave')
    | ((with_reducible apply J.kept'); rotate_left; (repeat (first | (with_reducible exact Outs.nil) | ((with_reducible apply Outs.cons); (repeat (first | with_reducible exact Out.here | with_reducible apply Out.there))))))
  rename_i b3 b4 q hq Bs Bn
  apply J.rowCap (v := .slice q.1 (pad l).length q.2) (by (repeat (first | with_reducible exact In.here | with_reducible apply In.there)))
  intro hcm0
  have hcm := hcm0 _ _ _ rfl
  obtain ⟨NB, hNB⟩ : ∃ NB, (pad l).length = NB * 64 := ⟨(pad l).length / 64, by have := pad_mod l; omega⟩
  have e0 : st8 st0 = st8 (sums (pad l) (NB - NB)) := by rw [Nat.sub_self]; rfl
  have hs : sha l = outS (sums (pad l) NB) 8 := by unfold sha; rw [show (pad l).length / 64 = NB by omega]
  rw [hs, e0]
  apply J.rangeG (ps := [19]) (chunk_byte Bs Bn NB 64 (pad l).length q.2 q.1 (by decide) hNB hq hcm) (fun _ (_ : Unit) => True) (fun k _ => [blk b3 (st8 (sums (pad l) (NB - k))) 181, blk b4 (tab (fun j => u32 (kw j)) 64) 165, row (.slice q.1 (pad l).length q.2) 5 1 (pad l).length (bcs (pad l)), blk Bs [.slice q.1 (pad l).length q.2] 93, blk Bn [.int .i64 64] 3]) [falseA] (fun k => [(5, .slice (q.1.map (·.add ((NB - (k + 1)) * 64))) 64 64), (3, .pointer (some ⟨b3, 0, none⟩)), (4, .pointer (some ⟨b4, 0, none⟩))]) ()
  case hg => rfl
  case hps => rfl
  case hlen => exact fun k => rfl
  case hF => exact fun k _ W _ s => ⟨s.cell (.tail _ (.tail _ (.tail _ (.head _)))) rfl, s.cell (.tail _ (.tail _ (.tail _ (.tail _ (.head _))))) rfl⟩
  case hI => trivial
  case ho => ((try dsimp only); (repeat (first | (with_reducible exact Outs.nil) | ((with_reducible apply Outs.cons); (repeat (first | with_reducible exact Out.here | with_reducible apply Out.there))))))
  case hm => kernel_rfl
  case hka => rfl
  case hkb => rfl
  case hassign =>
    intro k A
    try dsimp only [putSl]
    repeat' first
      | ((with_reducible apply J.givesW (begin_)); exact rfl; exact rfl)
      | ((with_reducible apply J.givesW (keys_)); exact rfl; exact rfl)
      | ((with_reducible apply J.freshR (pad_ _ _ _ l)); exact rfl; exact rfl; (focus ((exact RH.and (RH.old hr) (RH.of ⟨rfl, hl⟩)))); intro _ _)
      | ((with_reducible apply J.iterC (chunkf _ _ _ 64)); exact rfl; exact rfl; decide; intro _ _)
      | refine J.one ?_
      | refine J.loudS ?_
      | (refine J.loudQ ?_; intro _ _)
      | (refine J.loudB ?_; intro _)
      | (with_reducible apply J.list)
      | ((with_reducible apply JC.draw (id := 9) [0, 0, 2, 6, 0, 30, 63, 127] (.q 0 (.p 1 (.p 2 (.q 3 (.p 4 (.p 5 (.x 6 (.x 7 .nil .none) .none))))))) (by kernel_rfl) ?_ (by kernel_rfl) ?_); (repeat (with_reducible first | exact PanicFree.body | exact PanicFree.np | exact PanicFree.lvS | apply PanicFree.then_ | apply PanicFree.blk)))
      | ((with_reducible apply JC.draw (id := 14) [0, 1, 3, 0, 8, 24, 63, 127, 255] (.p 0 (.p 1 (.q 2 (.p 3 (.p 4 (.q 5 (.p 6 (.p 7 (.x 8 .nil .none))))))))) (by kernel_rfl) ?_ (by kernel_rfl) ?_); (repeat (with_reducible first | exact PanicFree.body | exact PanicFree.np | exact PanicFree.lvS | apply PanicFree.then_ | apply PanicFree.blk)))
      | ((with_reducible apply J.pl2); exact rfl; (first | exact Gd.none | ((with_reducible apply Gd.on); exact rfl; exact rfl)); (repeat (first | (with_reducible exact PendF.nil) | ((with_reducible apply PendF.keep); exact rfl) | ((with_reducible apply PendF.gone); exact rfl))))
      | ((with_reducible apply J.pl2_off); exact rfl; ((with_reducible apply Gd.off); exact rfl; exact rfl; exact rfl); exact rfl; (repeat (first | (with_reducible exact PendF.nil) | ((with_reducible apply PendF.keep); exact rfl) | ((with_reducible apply PendF.gone); exact rfl))))
      | ((with_reducible apply J.pl2_off_none); exact rfl; ((with_reducible apply Gd.off); exact rfl; exact rfl; exact rfl); (repeat (first | (with_reducible exact PendF.nil) | ((with_reducible apply PendF.keep); exact rfl) | ((with_reducible apply PendF.gone); exact rfl))))
      | ((with_reducible first | apply J.psplit0 | apply J.psplit1 | apply J.psplit2); exact rfl; exact rfl; exact rfl)
      | (with_reducible exact J.pl_none)
      | ((with_reducible apply J.gsplit); exact rfl; exact rfl)
      | ((with_reducible first | apply J.cond | apply JC.cond); exact rfl)
      | (intro h; exfalso; fail)
      | (intro h; (try simp only [decide_eq_true_eq, decide_eq_false_iff_not, beq_iff_eq, beq_eq_false_iff_ne, Bool.not_eq_true', Bool.not_eq_false', bne_iff_ne, bne_eq_false_iff_eq, ne_eq, ge_iff_le, gt_iff_lt] at h))
      | (with_reducible apply J.gave')
      | ((with_reducible apply J.kept'); rotate_left; (repeat (first | (with_reducible exact Outs.nil) | ((with_reducible apply Outs.cons); (repeat (first | with_reducible exact Out.here | with_reducible apply Out.there))))))
    all_goals ((try dsimp only); apply J.stE; ((try dsimp only); repeat (first | exact sub.nil _ | (refine sub.consE rfl ?_ ?_; (first | with_reducible rfl | (fail) | rfl)))))
  case hbody =>
    rintro ll D rc k ⟨⟩ hk _
    try dsimp only at *
    repeat' first
      | ((with_reducible apply J.givesR (schedule_ _ _ (chunk (pad l) (NB - (k + 1))))); exact rfl; exact rfl; focus ((exact RH.and (RH.subM (RH.row (by (repeat (first | with_reducible exact In.here | with_reducible apply In.there))))) (RH.of ⟨chunk_length (by omega), by decide⟩))))
      | refine J.one ?_
      | refine J.loudS ?_
      | (refine J.loudQ ?_; intro _ _)
      | (refine J.loudB ?_; intro _)
      | (with_reducible apply J.list)
      | ((with_reducible apply JC.draw (id := 9) [0, 0, 2, 6, 0, 30, 63, 127] (.q 0 (.p 1 (.p 2 (.q 3 (.p 4 (.p 5 (.x 6 (.x 7 .nil .none) .none))))))) (by kernel_rfl) ?_ (by kernel_rfl) ?_); (repeat (with_reducible first | exact PanicFree.body | exact PanicFree.np | exact PanicFree.lvS | apply PanicFree.then_ | apply PanicFree.blk)))
      | ((with_reducible apply JC.draw (id := 14) [0, 1, 3, 0, 8, 24, 63, 127, 255] (.p 0 (.p 1 (.q 2 (.p 3 (.p 4 (.q 5 (.p 6 (.p 7 (.x 8 .nil .none))))))))) (by kernel_rfl) ?_ (by kernel_rfl) ?_); (repeat (with_reducible first | exact PanicFree.body | exact PanicFree.np | exact PanicFree.lvS | apply PanicFree.then_ | apply PanicFree.blk)))
      | ((with_reducible apply J.pl2); exact rfl; (first | exact Gd.none | ((with_reducible apply Gd.on); exact rfl; exact rfl)); (repeat (first | (with_reducible exact PendF.nil) | ((with_reducible apply PendF.keep); exact rfl) | ((with_reducible apply PendF.gone); exact rfl))))
      | ((with_reducible apply J.pl2_off); exact rfl; ((with_reducible apply Gd.off); exact rfl; exact rfl; exact rfl); exact rfl; (repeat (first | (with_reducible exact PendF.nil) | ((with_reducible apply PendF.keep); exact rfl) | ((with_reducible apply PendF.gone); exact rfl))))
      | ((with_reducible apply J.pl2_off_none); exact rfl; ((with_reducible apply Gd.off); exact rfl; exact rfl; exact rfl); (repeat (first | (with_reducible exact PendF.nil) | ((with_reducible apply PendF.keep); exact rfl) | ((with_reducible apply PendF.gone); exact rfl))))
      | ((with_reducible first | apply J.psplit0 | apply J.psplit1 | apply J.psplit2); exact rfl; exact rfl; exact rfl)
      | (with_reducible exact J.pl_none)
      | ((with_reducible apply J.gsplit); exact rfl; exact rfl)
      | ((with_reducible first | apply J.cond | apply JC.cond); exact rfl)
      | (intro h; exfalso; fail)
      | (intro h; (try simp only [decide_eq_true_eq, decide_eq_false_iff_not, beq_iff_eq, beq_eq_false_iff_ne, Bool.not_eq_true', Bool.not_eq_false', bne_iff_ne, bne_eq_false_iff_eq, ne_eq, ge_iff_le, gt_iff_lt] at h))
      | (with_reducible apply J.gave')
      | ((with_reducible apply J.kept'); rotate_left; (repeat (first | (with_reducible exact Outs.nil) | ((with_reducible apply Outs.cons); (repeat (first | with_reducible exact Out.here | with_reducible apply Out.there))))))
    rename_i b6 b7
    apply J.reB (b := b7) (C' := st8 (Sha.rnds (sch (chunk (pad l) (NB - (k + 1))) 48) (sums (pad l) (NB - (k + 1))) 0))
    · (repeat (first | with_reducible exact Upd.here | with_reducible apply Upd.there))
    · rfl
    apply JC.loopI (σ := Nat) (I := fun s => (s ≤ 64)) (L := fun s => [(23, .agg (tab (fun j => u32 (sch (chunk (pad l) (NB - (k + 1))) 48 j)) 64).toArray), (24, .int .i64 (s : Int)), (3, .pointer (some ⟨b3, 0, none⟩)), (4, .pointer (some ⟨b4, 0, none⟩)), (7, .pointer (some ⟨b7, 0, none⟩))]) (HH := fun s => [blk b7 (st8 (Sha.rnds (sch (chunk (pad l) (NB - (k + 1))) 48) (sums (pad l) (NB - (k + 1))) s)) 181, blk b6 (tab (fun j => u32 (sch (chunk (pad l) (NB - (k + 1))) 48 j)) 64) 165, obj ll (.loop rc), obj D (.deferred (some [])), blk b3 (st8 (sums (pad l) (NB - (k + 1)))) 181, blk b4 (tab (fun j => u32 (kw j)) 64) 165, row (.slice q.1 (pad l).length q.2) 5 1 (pad l).length (bcs (pad l)), blk Bs [.slice q.1 (pad l).length q.2] 93, blk Bn [.int .i64 64] 3]) (m := fun s => 64 - s) (s0 := 0)
    · ((try dsimp only); (exact Nat.zero_le _))
    · ((try dsimp only); repeat (first | exact sub.nil _ | (refine sub.consE rfl ?_ ?_; (first | with_reducible rfl | (fail) | rfl))))
    · ((try dsimp only); (repeat (first | (with_reducible exact Outs.nil) | ((with_reducible apply Outs.cons); (repeat (first | with_reducible exact Out.here | with_reducible apply Out.there))))))
    rintro nn j hnn hJ hK
    try dsimp only at hnn hJ ⊢
    repeat' first
      | (refine J.qv ?_; (with_reducible apply exq); focus (first
        | ((with_reducible apply Qv.index1); exact rfl; exact rfl; (constructor <;> omega); exact tab_at rfl (by omega))
        | ((with_reducible apply Qv.indexArr); exact rfl; exact rfl; (constructor <;> omega); exact rfl)))
      | (refine J.qr ?_; (with_reducible apply exq); focus (first
        | ((with_reducible apply Qr.load1); exact rfl; (repeat (first | with_reducible exact In.here | with_reducible apply In.there)); exact tab_at rfl (by omega))))
      | (refine J.qo ?_; refine ⟨?_, ?_⟩; focus (first
        | ((with_reducible apply Qr.load1); exact rfl; (repeat (first | with_reducible exact In.here | with_reducible apply In.there)); exact tab_at rfl (by omega))))
      | ((with_reducible apply J.givesW (round_ _ _)); exact rfl; exact rfl)
      | refine J.one ?_
      | refine J.loudS ?_
      | (refine J.loudQ ?_; intro _ _)
      | (refine J.loudB ?_; intro _)
      | (with_reducible apply J.list)
      | ((with_reducible apply JC.draw (id := 9) [0, 0, 2, 6, 0, 30, 63, 127] (.q 0 (.p 1 (.p 2 (.q 3 (.p 4 (.p 5 (.x 6 (.x 7 .nil .none) .none))))))) (by kernel_rfl) ?_ (by kernel_rfl) ?_); (repeat (with_reducible first | exact PanicFree.body | exact PanicFree.np | exact PanicFree.lvS | apply PanicFree.then_ | apply PanicFree.blk)))
      | ((with_reducible apply JC.draw (id := 14) [0, 1, 3, 0, 8, 24, 63, 127, 255] (.p 0 (.p 1 (.q 2 (.p 3 (.p 4 (.q 5 (.p 6 (.p 7 (.x 8 .nil .none))))))))) (by kernel_rfl) ?_ (by kernel_rfl) ?_); (repeat (with_reducible first | exact PanicFree.body | exact PanicFree.np | exact PanicFree.lvS | apply PanicFree.then_ | apply PanicFree.blk)))
      | ((with_reducible apply J.pl2); exact rfl; (first | exact Gd.none | ((with_reducible apply Gd.on); exact rfl; exact rfl)); (repeat (first | (with_reducible exact PendF.nil) | ((with_reducible apply PendF.keep); exact rfl) | ((with_reducible apply PendF.gone); exact rfl))))
      | ((with_reducible apply J.pl2_off); exact rfl; ((with_reducible apply Gd.off); exact rfl; exact rfl; exact rfl); exact rfl; (repeat (first | (with_reducible exact PendF.nil) | ((with_reducible apply PendF.keep); exact rfl) | ((with_reducible apply PendF.gone); exact rfl))))
      | ((with_reducible apply J.pl2_off_none); exact rfl; ((with_reducible apply Gd.off); exact rfl; exact rfl; exact rfl); (repeat (first | (with_reducible exact PendF.nil) | ((with_reducible apply PendF.keep); exact rfl) | ((with_reducible apply PendF.gone); exact rfl))))
      | ((with_reducible first | apply J.psplit0 | apply J.psplit1 | apply J.psplit2); exact rfl; exact rfl; exact rfl)
      | (with_reducible exact J.pl_none)
      | ((with_reducible apply J.gsplit); exact rfl; exact rfl)
      | ((with_reducible first | apply J.cond | apply JC.cond); exact rfl)
      | (intro h; exfalso; (first | (simp at h; done) | (simp at h; omega) | omega))
      | (intro h; (try simp only [decide_eq_true_eq, decide_eq_false_iff_not, beq_iff_eq, beq_eq_false_iff_ne, Bool.not_eq_true', Bool.not_eq_false', bne_iff_ne, bne_eq_false_iff_eq, ne_eq, ge_iff_le, gt_iff_lt] at h))
      | (with_reducible apply J.gave')
      | ((with_reducible apply J.kept'); rotate_left; (repeat (first | (with_reducible exact Outs.nil) | ((with_reducible apply Outs.cons); (repeat (first | with_reducible exact Out.here | with_reducible apply Out.there))))))
    · have hq : j < 64 := by omega
      apply J.reB (b := b7) (C' := st8 (Sha.rnds (sch (chunk (pad l) (NB - (k + 1))) 48) (sums (pad l) (NB - (k + 1))) (j + 1)))
      · (repeat (first | with_reducible exact Upd.here | with_reducible apply Upd.there))
      · have hx : 0 + (j : Int).toNat * 1 = j := by omega
        have hy : (j : Int).toNat * 1 = j := by omega
        first
        | rfl
        | (rw [hx]; rfl)
        | (rw [hx, hy]; rfl)
        | (trace_state; fail)
      (apply JC.againI hK (s' := (j + 1)); (focus (omega)); (focus ((try dsimp only); omega)); (focus (((try dsimp only); repeat (first | exact sub.nil _ | (refine sub.consE rfl ?_ ?_; (first | with_reducible rfl | ((focus (congr 1; omega))) | rfl)))))); ((try dsimp only); (repeat (first | (with_reducible exact Outs.nil) | ((with_reducible apply Outs.cons); (repeat (first | with_reducible exact Out.here | with_reducible apply Out.there)))))))
    have e0 : j = 64 := by omega
    subst e0
    repeat' first
      | (with_reducible refine JC.rounds 9 ?_)
      | (with_reducible apply JC.round)
      | refine J.one ?_
      | refine J.loudS ?_
      | (refine J.loudQ ?_; intro _ _)
      | (refine J.loudB ?_; intro _)
      | (with_reducible apply J.list)
      | ((with_reducible apply JC.draw (id := 9) [0, 0, 2, 6, 0, 30, 63, 127] (.q 0 (.p 1 (.p 2 (.q 3 (.p 4 (.p 5 (.x 6 (.x 7 .nil .none) .none))))))) (by kernel_rfl) ?_ (by kernel_rfl) ?_); (repeat (with_reducible first | exact PanicFree.body | exact PanicFree.np | exact PanicFree.lvS | apply PanicFree.then_ | apply PanicFree.blk)))
      | ((with_reducible apply JC.draw (id := 14) [0, 1, 3, 0, 8, 24, 63, 127, 255] (.p 0 (.p 1 (.q 2 (.p 3 (.p 4 (.q 5 (.p 6 (.p 7 (.x 8 .nil .none))))))))) (by kernel_rfl) ?_ (by kernel_rfl) ?_); (repeat (with_reducible first | exact PanicFree.body | exact PanicFree.np | exact PanicFree.lvS | apply PanicFree.then_ | apply PanicFree.blk)))
      | ((with_reducible apply J.pl2); exact rfl; (first | exact Gd.none | ((with_reducible apply Gd.on); exact rfl; exact rfl)); (repeat (first | (with_reducible exact PendF.nil) | ((with_reducible apply PendF.keep); exact rfl) | ((with_reducible apply PendF.gone); exact rfl))))
      | ((with_reducible apply J.pl2_off); exact rfl; ((with_reducible apply Gd.off); exact rfl; exact rfl; exact rfl); exact rfl; (repeat (first | (with_reducible exact PendF.nil) | ((with_reducible apply PendF.keep); exact rfl) | ((with_reducible apply PendF.gone); exact rfl))))
      | ((with_reducible apply J.pl2_off_none); exact rfl; ((with_reducible apply Gd.off); exact rfl; exact rfl; exact rfl); (repeat (first | (with_reducible exact PendF.nil) | ((with_reducible apply PendF.keep); exact rfl) | ((with_reducible apply PendF.gone); exact rfl))))
      | ((with_reducible first | apply J.psplit0 | apply J.psplit1 | apply J.psplit2); exact rfl; exact rfl; exact rfl)
      | (with_reducible exact J.pl_none)
      | ((with_reducible apply J.gsplit); exact rfl; exact rfl)
      | ((with_reducible first | apply J.cond | apply JC.cond); exact rfl)
      | (intro h; exfalso; (first | (revert h; decide) | (simp at h; done)))
      | (intro h; (try simp only [decide_eq_true_eq, decide_eq_false_iff_not, beq_iff_eq, beq_eq_false_iff_ne, Bool.not_eq_true', Bool.not_eq_false', bne_iff_ne, bne_eq_false_iff_eq, ne_eq, ge_iff_le, gt_iff_lt] at h))
      | (with_reducible apply J.gave')
      | ((with_reducible apply J.kept'); rotate_left; (repeat (first | (with_reducible exact Outs.nil) | ((with_reducible apply Outs.cons); (repeat (first | with_reducible exact Out.here | with_reducible apply Out.there))))))
    all_goals
      first
      | (have e1 : NB - k = NB - (k + 1) + 1 := by omega
         apply J.reB (b := b3) (C' := st8 (sums (pad l) (NB - (k + 1) + 1)))
         · (repeat (first | with_reducible exact Upd.here | with_reducible apply Upd.there))
         · rfl
         apply J.lvN () trivial
         (dsimp only [List.cons_append, List.nil_append]; rw [e1]; (repeat (first | (with_reducible exact Outs.nil) | ((with_reducible apply Outs.cons); (repeat (first | with_reducible exact Out.here | with_reducible apply Out.there)))))))
      | (trace_state; fail)
  case hdone =>
    rintro ⟨⟩ _ D
    try dsimp only at *
    repeat' first
      | ((with_reducible apply J.givesW (begin_)); exact rfl; exact rfl)
      | ((with_reducible apply J.givesW (keys_)); exact rfl; exact rfl)
      | ((with_reducible apply J.freshR (pad_ _ _ _ l)); exact rfl; exact rfl; (focus ((exact RH.and (RH.old hr) (RH.of ⟨rfl, hl⟩)))); intro _ _)
      | ((with_reducible apply J.iterC (chunkf _ _ _ 64)); exact rfl; exact rfl; decide; intro _ _)
      | refine J.one ?_
      | refine J.loudS ?_
      | (refine J.loudQ ?_; intro _ _)
      | (refine J.loudB ?_; intro _)
      | (with_reducible apply J.list)
      | ((with_reducible apply JC.draw (id := 9) [0, 0, 2, 6, 0, 30, 63, 127] (.q 0 (.p 1 (.p 2 (.q 3 (.p 4 (.p 5 (.x 6 (.x 7 .nil .none) .none))))))) (by kernel_rfl) ?_ (by kernel_rfl) ?_); (repeat (with_reducible first | exact PanicFree.body | exact PanicFree.np | exact PanicFree.lvS | apply PanicFree.then_ | apply PanicFree.blk)))
      | ((with_reducible apply JC.draw (id := 14) [0, 1, 3, 0, 8, 24, 63, 127, 255] (.p 0 (.p 1 (.q 2 (.p 3 (.p 4 (.q 5 (.p 6 (.p 7 (.x 8 .nil .none))))))))) (by kernel_rfl) ?_ (by kernel_rfl) ?_); (repeat (with_reducible first | exact PanicFree.body | exact PanicFree.np | exact PanicFree.lvS | apply PanicFree.then_ | apply PanicFree.blk)))
      | ((with_reducible apply J.pl2); exact rfl; (first | exact Gd.none | ((with_reducible apply Gd.on); exact rfl; exact rfl)); (repeat (first | (with_reducible exact PendF.nil) | ((with_reducible apply PendF.keep); exact rfl) | ((with_reducible apply PendF.gone); exact rfl))))
      | ((with_reducible apply J.pl2_off); exact rfl; ((with_reducible apply Gd.off); exact rfl; exact rfl; exact rfl); exact rfl; (repeat (first | (with_reducible exact PendF.nil) | ((with_reducible apply PendF.keep); exact rfl) | ((with_reducible apply PendF.gone); exact rfl))))
      | ((with_reducible apply J.pl2_off_none); exact rfl; ((with_reducible apply Gd.off); exact rfl; exact rfl; exact rfl); (repeat (first | (with_reducible exact PendF.nil) | ((with_reducible apply PendF.keep); exact rfl) | ((with_reducible apply PendF.gone); exact rfl))))
      | ((with_reducible first | apply J.psplit0 | apply J.psplit1 | apply J.psplit2); exact rfl; exact rfl; exact rfl)
      | (with_reducible exact J.pl_none)
      | ((with_reducible apply J.gsplit); exact rfl; exact rfl)
      | ((with_reducible first | apply J.cond | apply JC.cond); exact rfl)
      | (intro h; exfalso; fail)
      | (intro h; (try simp only [decide_eq_true_eq, decide_eq_false_iff_not, beq_iff_eq, beq_eq_false_iff_ne, Bool.not_eq_true', Bool.not_eq_false', bne_iff_ne, bne_eq_false_iff_eq, ne_eq, ge_iff_le, gt_iff_lt] at h))
      | (with_reducible apply J.gave')
      | ((with_reducible apply J.kept'); rotate_left; (repeat (first | (with_reducible exact Outs.nil) | ((with_reducible apply Outs.cons); (repeat (first | with_reducible exact Out.here | with_reducible apply Out.there))))))
    refine J.nilRow 5 1 ?_
    apply J.reR (v' := .slice none (4 * 0) 0) (n' := 4 * 0) (C' := bcs (outS (sums (pad l) NB) 0))
    · (repeat (first | with_reducible exact Upd.here | with_reducible apply Upd.there))
    · rfl
    · rfl
    · rfl
    apply J.loopI (σ := (Nat × (Option Addr × Nat))) (I := fun s => (s.1 ≤ 8)) (L := fun s => [(11, .slice s.2.1 (4 * s.1) s.2.2), (48, .agg (st8 (sums (pad l) NB)).toArray), (49, .int .i64 (s.1 : Int))]) (HH := fun s => [obj D (.deferred (some [])), row (.slice s.2.1 (4 * s.1) s.2.2) 5 1 (4 * s.1) (bcs (outS (sums (pad l) NB) s.1))]) (m := fun s => 8 - s.1) (s0 := (0, (none, 0)))
    · ((try dsimp only); (exact Nat.zero_le _))
    · ((try dsimp only); repeat (first | exact sub.nil _ | (refine sub.consE rfl ?_ ?_; (first | with_reducible rfl | (fail) | rfl))))
    · ((try dsimp only); (repeat (first | (with_reducible exact Outs.nil) | ((with_reducible apply Outs.cons); (repeat (first | with_reducible exact Out.here | with_reducible apply Out.there))))))
    rintro ⟨i, q2⟩ hI
    try dsimp only at hI ⊢
    have hlt := (sums (pad l) NB i).isLt
    have hix : (i : Int).toNat * 1 = i := by omega
    repeat' first
      | (refine J.qv ?_; (with_reducible apply exq); focus (first
        | ((with_reducible apply Qv.index1); exact rfl; exact rfl; (constructor <;> omega); (rw [hix, st8_tab]; exact tab_get (by omega)))
        | ((with_reducible apply Qv.conv); exact rfl; exact wr64 (z := (((sums (pad l) NB i).toNat : Nat) : Int)) (by omega) (by omega) rfl)))
      | ((with_reducible apply J.freshR (num_ (sums (pad l) NB i).toNat 4)); exact rfl; exact rfl; (focus ((refine RH.of ?_; omega))); intro _ _)
      | refine J.one ?_
      | refine J.loudS ?_
      | (refine J.loudQ ?_; intro _ _)
      | (refine J.loudB ?_; intro _)
      | (with_reducible apply J.list)
      | ((with_reducible apply JC.draw (id := 9) [0, 0, 2, 6, 0, 30, 63, 127] (.q 0 (.p 1 (.p 2 (.q 3 (.p 4 (.p 5 (.x 6 (.x 7 .nil .none) .none))))))) (by kernel_rfl) ?_ (by kernel_rfl) ?_); (repeat (with_reducible first | exact PanicFree.body | exact PanicFree.np | exact PanicFree.lvS | apply PanicFree.then_ | apply PanicFree.blk)))
      | ((with_reducible apply JC.draw (id := 14) [0, 1, 3, 0, 8, 24, 63, 127, 255] (.p 0 (.p 1 (.q 2 (.p 3 (.p 4 (.q 5 (.p 6 (.p 7 (.x 8 .nil .none))))))))) (by kernel_rfl) ?_ (by kernel_rfl) ?_); (repeat (with_reducible first | exact PanicFree.body | exact PanicFree.np | exact PanicFree.lvS | apply PanicFree.then_ | apply PanicFree.blk)))
      | ((with_reducible apply J.pl2); exact rfl; (first | exact Gd.none | ((with_reducible apply Gd.on); exact rfl; exact rfl)); (repeat (first | (with_reducible exact PendF.nil) | ((with_reducible apply PendF.keep); exact rfl) | ((with_reducible apply PendF.gone); exact rfl))))
      | ((with_reducible apply J.pl2_off); exact rfl; ((with_reducible apply Gd.off); exact rfl; exact rfl; exact rfl); exact rfl; (repeat (first | (with_reducible exact PendF.nil) | ((with_reducible apply PendF.keep); exact rfl) | ((with_reducible apply PendF.gone); exact rfl))))
      | ((with_reducible apply J.pl2_off_none); exact rfl; ((with_reducible apply Gd.off); exact rfl; exact rfl; exact rfl); (repeat (first | (with_reducible exact PendF.nil) | ((with_reducible apply PendF.keep); exact rfl) | ((with_reducible apply PendF.gone); exact rfl))))
      | ((with_reducible first | apply J.psplit0 | apply J.psplit1 | apply J.psplit2); exact rfl; exact rfl; exact rfl)
      | (with_reducible exact J.pl_none)
      | ((with_reducible apply J.gsplit); exact rfl; exact rfl)
      | ((with_reducible first | apply J.cond | apply JC.cond); exact rfl)
      | (intro h; exfalso; (first | (simp at h; done) | (simp at h; omega) | omega))
      | (intro h; (try simp only [decide_eq_true_eq, decide_eq_false_iff_not, beq_iff_eq, beq_eq_false_iff_ne, Bool.not_eq_true', Bool.not_eq_false', bne_iff_ne, bne_eq_false_iff_eq, ne_eq, ge_iff_le, gt_iff_lt] at h))
      | (with_reducible apply J.gave')
      | ((with_reducible apply J.kept'); rotate_left; (repeat (first | (with_reducible exact Outs.nil) | ((with_reducible apply Outs.cons); (repeat (first | with_reducible exact Out.here | with_reducible apply Out.there))))))
    all_goals
      first
      | (have hq : i < 8 := by omega
         rename_i q3 _ q4 _
         apply J.reR (v' := .slice q4.1 (4 * (i + 1)) q4.2) (n' := 4 * (i + 1)) (C' := bcs (outS (sums (pad l) NB) (i + 1)))
         · (repeat (first | with_reducible exact Upd.here | with_reducible apply Upd.there))
         · rfl
         · rfl
         · exact (bcs_append _ _).symm
         (apply J.againI (s := (i, q2)) (s' := (i + 1, q4)); (focus (omega)); (focus ((try dsimp only); (show i + 1 ≤ 8; omega))); (focus (((try dsimp only); repeat (first | exact sub.nil _ | (refine sub.consE rfl ?_ ?_; (first | with_reducible rfl | ((focus (first | rfl | (congr 1; omega)))) | rfl)))))); ((try dsimp only); (repeat (first | (with_reducible exact Outs.nil) | ((with_reducible apply Outs.cons); (repeat (first | with_reducible exact Out.here | with_reducible apply Out.there))))))))
      | (have hq : i = 8 := by omega
         subst hq
         ((with_reducible apply J.freshRow); (repeat (first | with_reducible exact Out.here | with_reducible apply Out.there)); exact rfl; rfl; rfl))
      | (trace_state; fail)
  case hstop =>
    intro D
    exact J.absurd_ (.there .here)
theorem text_ (ao : Option Addr) (n cap : Nat) (L : List (List UInt8)) (w : World) (hw : RdS w ao L ∧ n = L.length ∧ L.flatten.length ≤ 1099511627776 ∧ L.length ≤ 1099511627776) : CSpec Tryz.prog 62 [.slice ao n cap] [] w (Gives (str (sha L.flatten))) := by
  obtain ⟨hr, hn, hf, hm⟩ := hw
  refine spec_own0 Tryz.func62 rfl Tryz.ntmps62 rfl (l0 := [(0, .slice ao n cap)]) rfl ?_
  repeat' first
    | (refine J.qr ?_; (with_reducible apply exq); focus (first
      | ((with_reducible apply Qr.toStr); exact rfl; (with_reducible apply RH.row; (repeat (first | with_reducible exact In.here | with_reducible apply In.there))); exact (sha_length _).symm)))
    | ((with_reducible apply J.freshR (cat_ _ _ _ L)); exact rfl; exact rfl; (focus (exact RH.and (RH.sold hr) (RH.of ⟨hn, hf, hm⟩))); intro _ _)
    | ((with_reducible apply J.freshR (sum_ _ _ _ L.flatten)); exact rfl; exact rfl; (focus (exact RH.and (RH.row (by (repeat (first | with_reducible exact In.here | with_reducible apply In.there)))) (RH.of ⟨rfl, hf⟩))); intro _ _)
    | refine J.one ?_
    | refine J.loudS ?_
    | (refine J.loudQ ?_; intro _ _)
    | (refine J.loudB ?_; intro _)
    | (with_reducible apply J.list)
    | ((with_reducible apply J.gsplit); exact rfl; exact rfl)
    | ((with_reducible first | apply J.cond | apply JC.cond); exact rfl)
    | (intro h; exfalso; (first | (simp at h; done) | (simp at h; omega)))
    | (intro h; (try simp only [decide_eq_true_eq, decide_eq_false_iff_not, beq_iff_eq, beq_eq_false_iff_ne, Bool.not_eq_true', Bool.not_eq_false', bne_iff_ne, bne_eq_false_iff_eq, ne_eq, ge_iff_le, gt_iff_lt] at h))
    | (with_reducible apply J.gave')
    | ((with_reducible apply J.kept'); rotate_left; (repeat (first | (with_reducible exact Outs.nil) | ((with_reducible apply Outs.cons); (repeat (first | with_reducible exact Out.here | with_reducible apply Out.there))))))
  all_goals (rfl)
theorem short_ (ao : Option Addr) (n cap : Nat) (L : List (List UInt8)) (w : World) (hw : RdS w ao L ∧ n = L.length ∧ L.flatten.length ≤ 1099511627776 ∧ L.length ≤ 1099511627776) : CSpec Tryz.prog 177 [.slice ao n cap] [] w (Gives (str (short L.flatten))) := by
  obtain ⟨hr, hn, hf, hm⟩ := hw
  refine spec_own0 Tryz.func177 rfl Tryz.ntmps177 rfl (l0 := [(0, .slice ao n cap)]) rfl ?_
  repeat' first
    | (refine J.qv ?_; (with_reducible apply exq); focus (first
      | ((with_reducible apply Qv.slS (p := 0) (r := 8)); exact rfl; exact Bd.none; exact Bd.some rfl rfl; omega; (rw [sha_length]; omega))))
    | ((with_reducible apply J.givesR (text_ _ _ _ L)); exact rfl; exact rfl; focus (exact RH.and (RH.sold hr) (RH.of ⟨hn, hf, hm⟩)))
    | refine J.one ?_
    | refine J.loudS ?_
    | (refine J.loudQ ?_; intro _ _)
    | (refine J.loudB ?_; intro _)
    | (with_reducible apply J.list)
    | ((with_reducible apply J.gsplit); exact rfl; exact rfl)
    | ((with_reducible first | apply J.cond | apply JC.cond); exact rfl)
    | (intro h; exfalso; (first | (simp at h; done) | (simp at h; omega)))
    | (intro h; (try simp only [decide_eq_true_eq, decide_eq_false_iff_not, beq_iff_eq, beq_eq_false_iff_ne, Bool.not_eq_true', Bool.not_eq_false', bne_iff_ne, bne_eq_false_iff_eq, ne_eq, ge_iff_le, gt_iff_lt] at h))
    | (with_reducible apply J.gave')
    | ((with_reducible apply J.kept'); rotate_left; (repeat (first | (with_reducible exact Outs.nil) | ((with_reducible apply Outs.cons); (repeat (first | with_reducible exact Out.here | with_reducible apply Out.there))))))
  all_goals (rfl)
end Go.Proofs.YtljbedladifgmaaGreat.Hsum
namespace Go.Proofs.YtljbedladifgmaaGreat.Field
open Go Go.RowKit Eng
set_option linter.unusedVariables false
set_option maxRecDepth 100000
set_option linter.unusedSimpArgs false
open Sha Iter Hash Bytes Hsum Wide Tx
set_option maxHeartbeats 1000000
abbrev ow := outw 157 5
theorem nat_of {n : Int} (h : 0 ≤ n) : ∃ k : Nat, n = (k : Int) ∧ n.toNat = k := ⟨n.toNat, by omega, rfl⟩
theorem num_le (n : Nat) : num n 6 = num n 6 := rfl
/-- A text's octets, its length ahead. -/
def tx (s : List UInt8) : List UInt8 := num s.length 2 ++ s
theorem tx_length (s : List UInt8) : (tx s).length = s.length + 2 := by simp [tx, num_length]; omega
/-- A wide number's octets. -/
def wb (n : Int) : List UInt8 := num n.toNat 32
theorem wb_length (n : Int) : (wb n).length = 32 := num_length _ _
theorem new_  (w : World) (hw : True) : CSpec Tryz.prog 59 [] [] w (FreshP (fun p => [ow p []])) := by
  refine spec_own0 Tryz.func59 rfl Tryz.ntmps59 rfl (l0 := []) rfl ?_
  repeat' first
    | refine J.one ?_
    | refine J.loudS ?_
    | (refine J.loudQ ?_; intro _ _)
    | (refine J.loudB ?_; intro _)
    | (with_reducible apply J.list)
    | ((with_reducible apply J.gsplit); exact rfl; exact rfl)
    | ((with_reducible first | apply J.cond | apply JC.cond); exact rfl)
    | (intro h; exfalso; (first | (simp at h; done) | (simp at h; omega)))
    | (intro h; (try simp only [decide_eq_true_eq, decide_eq_false_iff_not, beq_iff_eq, beq_eq_false_iff_ne, Bool.not_eq_true', Bool.not_eq_false', bne_iff_ne, bne_eq_false_iff_eq, ne_eq, ge_iff_le, gt_iff_lt] at h))
    | (with_reducible apply J.gave')
    | ((with_reducible apply J.kept'); rotate_left; (repeat (first | (with_reducible exact Outs.nil) | ((with_reducible apply Outs.cons); (repeat (first | with_reducible exact Out.here | with_reducible apply Out.there))))))
  all_goals ((rename_i p; refine J.nilRow 5 1 ?_; ((with_reducible apply J.shutOut (bs := [])); (repeat (first | with_reducible exact Out.here | with_reducible apply Out.there)); (repeat (first | with_reducible exact Out.here | with_reducible apply Out.there)); (focus (first | rfl | (simp; done) | (simp; omega))); (focus (first | rfl | (simp; done) | (simp; omega))); (focus (first | rfl | exact (bcs_append _ _).symm))); exact J.post ⟨p, rfl, rfl⟩ (.cons .here .nil)))
theorem put_ (p : Nat) (l : List UInt8) (ao : Option Addr) (n cap : Nat) (m : List UInt8) (w : World) (hw : n = m.length ∧ l.length + m.length ≤ 8192) : CSpec Tryz.prog 121 [.pointer (some ⟨p, 0, none⟩), .slice ao n cap, .int .i64 0] [ow p l, row (.slice ao n cap) 5 1 n (bcs m)] w (Turns (.tuple #[]) [ow p (l ++ m)]) := by
  obtain ⟨rfl, hm⟩ := hw
  refine spec_of Tryz.func121 rfl Tryz.ntmps121 rfl (l0 := [(0, .pointer (some ⟨p, 0, none⟩)), (1, .slice ao m.length cap), (2, .int .i64 0)]) rfl ?_
  intro fp
  refine J.openOut .here ?_
  intro q hq
  repeat' first
    | refine J.one ?_
    | refine J.loudS ?_
    | (refine J.loudQ ?_; intro _ _)
    | (refine J.loudB ?_; intro _)
    | (with_reducible apply J.list)
    | ((with_reducible apply J.gsplit); exact rfl; exact rfl)
    | ((with_reducible first | apply J.cond | apply JC.cond); exact rfl)
    | (intro h; exfalso; (first | (simp at h; done) | (simp at h; omega) | omega))
    | (intro h; (try simp only [decide_eq_true_eq, decide_eq_false_iff_not, beq_iff_eq, beq_eq_false_iff_ne, Bool.not_eq_true', Bool.not_eq_false', bne_iff_ne, bne_eq_false_iff_eq, ne_eq, ge_iff_le, gt_iff_lt] at h))
    | (with_reducible apply J.gave')
    | ((with_reducible apply J.kept'); rotate_left; (repeat (first | (with_reducible exact Outs.nil) | ((with_reducible apply Outs.cons); (repeat (first | with_reducible exact Out.here | with_reducible apply Out.there))))))
  all_goals ((((with_reducible apply J.shutOut (bs := l ++ m)); (repeat (first | with_reducible exact Out.here | with_reducible apply Out.there)); (repeat (first | with_reducible exact Out.here | with_reducible apply Out.there)); (focus (first | rfl | (simp; done) | (simp; omega))); (focus (first | rfl | (simp; done) | (simp; omega))); (focus (first | rfl | exact (bcs_append _ _).symm))); ((with_reducible apply J.turned); exact rfl; (repeat (first | (with_reducible exact Outs.nil) | ((with_reducible apply Outs.cons); (repeat (first | with_reducible exact Out.here | with_reducible apply Out.there))))))))
theorem numN (p : Nat) (l : List UInt8) (n : Nat) (w : World) (hw : n ≤ 1099511627776 ∧ l.length + 6 ≤ 8192) : CSpec Tryz.prog 99 [.pointer (some ⟨p, 0, none⟩), .int .i64 (n : Int)] [ow p l] w (Turns (.tuple #[]) [ow p (l ++ num n 6)]) := by
  obtain ⟨hn, hm⟩ := hw
  refine spec_of Tryz.func99 rfl Tryz.ntmps99 rfl (l0 := [(0, .pointer (some ⟨p, 0, none⟩)), (1, .int .i64 (n : Int))]) rfl ?_
  intro fp
  repeat' first
    | ((with_reducible apply J.freshR (num_ n 6)); exact rfl; exact rfl; (focus ((refine RH.of ?_; omega))); intro _ _)
    | ((with_reducible apply J.turnsP (put_ _ _ _ _ _ _)); exact rfl; exact rfl; (repeat (first | (with_reducible exact Outs.nil) | ((with_reducible apply Outs.cons); (repeat (first | with_reducible exact Out.here | with_reducible apply Out.there))))); (focus ((refine ⟨(num_length _ _).symm, ?_⟩; rw [num_length]; omega))); (try dsimp only [List.cons_append, List.nil_append]))
    | refine J.one ?_
    | refine J.loudS ?_
    | (refine J.loudQ ?_; intro _ _)
    | (refine J.loudB ?_; intro _)
    | (with_reducible apply J.list)
    | ((with_reducible apply J.gsplit); exact rfl; exact rfl)
    | ((with_reducible first | apply J.cond | apply JC.cond); exact rfl)
    | (intro h; exfalso; (first | (simp at h; done) | (simp at h; omega) | omega))
    | (intro h; (try simp only [decide_eq_true_eq, decide_eq_false_iff_not, beq_iff_eq, beq_eq_false_iff_ne, Bool.not_eq_true', Bool.not_eq_false', bne_iff_ne, bne_eq_false_iff_eq, ne_eq, ge_iff_le, gt_iff_lt] at h))
    | (with_reducible apply J.gave')
    | ((with_reducible apply J.kept'); rotate_left; (repeat (first | (with_reducible exact Outs.nil) | ((with_reducible apply Outs.cons); (repeat (first | with_reducible exact Out.here | with_reducible apply Out.there))))))
  all_goals (((with_reducible apply J.turned); exact rfl; (repeat (first | (with_reducible exact Outs.nil) | ((with_reducible apply Outs.cons); (repeat (first | with_reducible exact Out.here | with_reducible apply Out.there)))))))
theorem num_w (p : Nat) (l : List UInt8) (n : Int) (w : World) (hw : 0 ≤ n ∧ n ≤ 1099511627776 ∧ l.length + 6 ≤ 8192) : CSpec Tryz.prog 99 [.pointer (some ⟨p, 0, none⟩), .int .i64 n] [ow p l] w (Turns (.tuple #[]) [ow p (l ++ num n.toNat 6)]) := by
  obtain ⟨k, rfl, e⟩ := nat_of hw.1
  rw [e]
  exact numN p l k w ⟨by omega, hw.2.2⟩
theorem text_w (p : Nat) (l s : List UInt8) (w : World) (hw : s.length ≤ 1024 ∧ l.length + s.length ≤ 8190) : CSpec Tryz.prog 98 [.pointer (some ⟨p, 0, none⟩), str s] [ow p l] w (Turns (.tuple #[]) [ow p (l ++ tx s)]) := by
  obtain ⟨hn, hm⟩ := hw
  refine spec_of Tryz.func98 rfl Tryz.ntmps98 rfl (l0 := [(0, .pointer (some ⟨p, 0, none⟩)), (1, str s)]) rfl ?_
  intro fp
  repeat' first
    | ((with_reducible apply J.freshR (num_ s.length 2)); exact rfl; exact rfl; (focus ((refine RH.of ?_; omega))); intro _ _)
    | ((with_reducible apply J.freshR (cat_ _ _ _ [num s.length 2, s])); exact rfl; exact rfl; (focus (exact RH.and (RH.sblk (by (repeat (first | with_reducible exact In.here | with_reducible apply In.there))) (RH.lcons (RH.brow (by (repeat (first | with_reducible exact In.here | with_reducible apply In.there)))) (RH.lcons (RH.bbat (by (repeat (first | with_reducible exact In.here | with_reducible apply In.there)))) RH.lnil))) (RH.of ⟨rfl, by simp [num_length]; omega, by simp⟩))); intro _ _)
    | ((with_reducible apply J.turnsP (put_ _ _ _ _ _ _)); exact rfl; exact rfl; (repeat (first | (with_reducible exact Outs.nil) | ((with_reducible apply Outs.cons); (repeat (first | with_reducible exact Out.here | with_reducible apply Out.there))))); (focus ((refine ⟨rfl, ?_⟩; simp [num_length]; omega))); (try dsimp only [List.cons_append, List.nil_append]))
    | refine J.one ?_
    | refine J.loudS ?_
    | (refine J.loudQ ?_; intro _ _)
    | (refine J.loudB ?_; intro _)
    | (with_reducible apply J.list)
    | ((with_reducible apply J.gsplit); exact rfl; exact rfl)
    | ((with_reducible first | apply J.cond | apply JC.cond); exact rfl)
    | (intro h; exfalso; (first | (simp at h; done) | (simp at h; omega) | omega))
    | (intro h; (try simp only [decide_eq_true_eq, decide_eq_false_iff_not, beq_iff_eq, beq_eq_false_iff_ne, Bool.not_eq_true', Bool.not_eq_false', bne_iff_ne, bne_eq_false_iff_eq, ne_eq, ge_iff_le, gt_iff_lt] at h))
    | (with_reducible apply J.gave')
    | ((with_reducible apply J.kept'); rotate_left; (repeat (first | (with_reducible exact Outs.nil) | ((with_reducible apply Outs.cons); (repeat (first | with_reducible exact Out.here | with_reducible apply Out.there))))))
  all_goals
    first
    | (have e : ([num s.length 2, s] : List (List UInt8)).flatten = tx s := by simp [tx]
       rw [e]
       ((with_reducible apply J.turned); exact rfl; (repeat (first | (with_reducible exact Outs.nil) | ((with_reducible apply Outs.cons); (repeat (first | with_reducible exact Out.here | with_reducible apply Out.there)))))))
    | (trace_state; fail)
theorem wb_step (n k j : Nat) (hk : k ≤ 3) (hj : j < 8) : num (n / 256 ^ (8 * k + 8 - j)) (8 * (3 - k) + j) ++ [UInt8.ofNat (n / 256 ^ (8 * k + 7 - j))] = num (n / 256 ^ (8 * k + 8 - (j + 1))) (8 * (3 - k) + (j + 1)) := by
  rw [show 8 * (3 - k) + (j + 1) = (8 * (3 - k) + j) + 1 by omega, num, Nat.div_div_eq_div_mul, ← Nat.pow_succ]
  rw [show (8 * k + 8 - (j + 1)).succ = 8 * k + 8 - j by omega, show 8 * k + 8 - (j + 1) = 8 * k + 7 - j by omega]
def wbp (n k : Nat) : List UInt8 := num (n / 256 ^ (8 * k)) (8 * (4 - k))
theorem wb_byte (n k j : Nat) (hj : j < 8) : n / 18446744073709551616 ^ k % 18446744073709551616 / 2 ^ (56 - 8 * j) % 256 = n / 256 ^ (8 * k + 7 - j) % 256 := by
  have e1 : (18446744073709551616 : Nat) = 256 ^ 8 := by decide
  have e2 : 256 ^ (8 * k + 7 - j) = (256 ^ 8) ^ k * 2 ^ (56 - 8 * j) := by
    rw [← Nat.pow_mul, show (256 : Nat) = 2 ^ 8 from rfl, ← Nat.pow_mul, ← Nat.pow_mul, ← Nat.pow_add]
    congr 1
    omega
  rw [e2, ← Nat.div_div_eq_div_mul, ← e1]
  generalize n / 18446744073709551616 ^ k = m
  obtain ⟨i, hi⟩ : ∃ i, i ≤ 7 ∧ 56 - 8 * j = 8 * i := ⟨7 - j, by omega, by omega⟩
  rw [hi.2]
  rcases (by omega : i = 0 ∨ i = 1 ∨ i = 2 ∨ i = 3 ∨ i = 4 ∨ i = 5 ∨ i = 6 ∨ i = 7) with rfl | rfl | rfl | rfl | rfl | rfl | rfl | rfl <;> simp only [Nat.reduceMul, Nat.reducePow] <;> omega
theorem wrapu8 {n : Nat} : IntKind.u8.wrap (n : Int) = ((n % 256 : Nat) : Int) := wr8
theorem shrx {x j : Nat} (hj : j < 8) : ((x : Nat) : Int).fdiv (2 ^ (min (56 - 8 * (j : Int)).toNat IntKind.u64.bits)) = ((x / 2 ^ (56 - 8 * j) : Nat) : Int) := by
  have e : min (56 - 8 * (j : Int)).toNat IntKind.u64.bits = 56 - 8 * j := by
    show min (56 - 8 * (j : Int)).toNat 64 = _
    omega
  have e2 : ((2 : Int) ^ (56 - 8 * j)) = ((2 ^ (56 - 8 * j) : Nat) : Int) := by push_cast; rfl
  rw [e, e2, Int.fdiv_eq_ediv_of_nonneg _ (Int.natCast_nonneg _)]
  rfl
def wx (m k : Nat) : Nat := m / 18446744073709551616 ^ k % 18446744073709551616
theorem wx_get {m k : Nat} (hk : k < 4) : (wv (m : Int))[k]? = some (.int .u64 ((wx m k : Nat) : Int)) := by
  rw [wv_get hk]
  congr 2
theorem wbp_0 (m : Nat) : wbp m 0 = num m 32 := by simp [wbp]
theorem wbp_4 (m : Nat) : wbp m 4 = [] := rfl
theorem wide_ (m : Nat) (w : World) (hw : True) : CSpec Tryz.prog 170 [.agg (wv (m : Int)).toArray] [] w (Fresh 5 1 32 (bcs (num m 32)) []) := by
  refine spec_ownM Tryz.func170 rfl Tryz.ntmps170 rfl (l0 := [(0, .agg (wv (m : Int)).toArray)]) rfl ?_
  refine J.noPanic ?_
  repeat' first
    | ((with_reducible apply J.iterB (backward_uint64 _ _ _)); exact rfl; exact rfl; intro _)
    | refine J.one ?_
    | refine J.loudS ?_
    | (refine J.loudQ ?_; intro _ _)
    | (refine J.loudB ?_; intro _)
    | (with_reducible apply J.list)
    | ((with_reducible apply JC.draw (id := 7) [0, 0, 0, 6, 14, 30, 63, 127] (.q 0 (.p 1 (.p 2 (.p 3 (.p 4 (.x 5 (.x 6 (.x 7 .nil .none) .none) .none)))))) (by kernel_rfl) ?_ (by kernel_rfl) ?_); (repeat (with_reducible first | exact PanicFree.body | exact PanicFree.np | exact PanicFree.lvS | apply PanicFree.then_ | apply PanicFree.blk)))
    | ((with_reducible apply J.pl2); exact rfl; (first | exact Gd.none | ((with_reducible apply Gd.on); exact rfl; exact rfl)); (repeat (first | (with_reducible exact PendF.nil) | ((with_reducible apply PendF.keep); exact rfl) | ((with_reducible apply PendF.gone); exact rfl))))
    | ((with_reducible apply J.pl2_off); exact rfl; ((with_reducible apply Gd.off); exact rfl; exact rfl; exact rfl); exact rfl; (repeat (first | (with_reducible exact PendF.nil) | ((with_reducible apply PendF.keep); exact rfl) | ((with_reducible apply PendF.gone); exact rfl))))
    | ((with_reducible apply J.pl2_off_none); exact rfl; ((with_reducible apply Gd.off); exact rfl; exact rfl; exact rfl); (repeat (first | (with_reducible exact PendF.nil) | ((with_reducible apply PendF.keep); exact rfl) | ((with_reducible apply PendF.gone); exact rfl))))
    | ((with_reducible first | apply J.psplit0 | apply J.psplit1 | apply J.psplit2); exact rfl; exact rfl; exact rfl)
    | (with_reducible exact J.pl_none)
    | ((with_reducible apply J.gsplit); exact rfl; exact rfl)
    | ((with_reducible first | apply J.cond | apply JC.cond); exact rfl)
    | (intro h; exfalso; fail)
    | (intro h; (try simp only [decide_eq_true_eq, decide_eq_false_iff_not, beq_iff_eq, beq_eq_false_iff_ne, Bool.not_eq_true', Bool.not_eq_false', bne_iff_ne, bne_eq_false_iff_eq, ne_eq, ge_iff_le, gt_iff_lt] at h))
    | (with_reducible apply J.gave')
    | ((with_reducible apply J.kept'); rotate_left; (repeat (first | (with_reducible exact Outs.nil) | ((with_reducible apply Outs.cons); (repeat (first | with_reducible exact Out.here | with_reducible apply Out.there))))))
  rename_i p1 p3 Bs
  refine J.nilRow 5 1 ?_
  apply J.reR (v' := .slice none (8 * (4 - 4)) 0) (n' := 8 * (4 - 4)) (C' := bcs (wbp m 4))
  · (repeat (first | with_reducible exact Upd.here | with_reducible apply Upd.there))
  · rfl
  · rfl
  · rfl
  apply J.reB (b := p3) (C' := [.slice none (8 * (4 - 4)) 0])
  · (repeat (first | with_reducible exact Upd.here | with_reducible apply Upd.there))
  · rfl
  apply J.rangeG (ps := [9, 10]) (back_uint64 Bs p1 4 4 (fun k => ((wx m k : Nat) : Int)) (by decide)) (fun _ (_ : Option Addr × Nat) => True) (fun k q => [blk p1 (wv (m : Int)) 27, blk p3 [.slice q.1 (8 * (4 - k)) q.2] 93, row (.slice q.1 (8 * (4 - k)) q.2) 5 1 (8 * (4 - k)) (bcs (wbp m k)), blk Bs [.slice (some ⟨p1, 0, none⟩) 4 4] 226]) [falseA] (fun k => [(5, .int .u64 ((wx m k : Nat) : Int)), (3, .pointer (some ⟨p3, 0, none⟩))]) (none, 0)
  case hg => rfl
  case hps => rfl
  case hlen => exact fun k => rfl
  case hF => exact fun k q W _ s => ⟨s.cell (.tail _ (.tail _ (.tail _ (.head _)))) rfl, fun j hj hlt => s.cell (.head _) (wx_get hlt)⟩
  case hI => trivial
  case ho => ((try dsimp only); (repeat (first | (with_reducible exact Outs.nil) | ((with_reducible apply Outs.cons); (repeat (first | with_reducible exact Out.here | with_reducible apply Out.there))))))
  case hm => kernel_rfl
  case hka => rfl
  case hkb => rfl
  case hassign =>
    intro k A
    try dsimp only [putSl]
    repeat' first
      | ((with_reducible apply J.iterB (backward_uint64 _ _ _)); exact rfl; exact rfl; intro _)
      | refine J.one ?_
      | refine J.loudS ?_
      | (refine J.loudQ ?_; intro _ _)
      | (refine J.loudB ?_; intro _)
      | (with_reducible apply J.list)
      | ((with_reducible apply JC.draw (id := 7) [0, 0, 0, 6, 14, 30, 63, 127] (.q 0 (.p 1 (.p 2 (.p 3 (.p 4 (.x 5 (.x 6 (.x 7 .nil .none) .none) .none)))))) (by kernel_rfl) ?_ (by kernel_rfl) ?_); (repeat (with_reducible first | exact PanicFree.body | exact PanicFree.np | exact PanicFree.lvS | apply PanicFree.then_ | apply PanicFree.blk)))
      | ((with_reducible apply J.pl2); exact rfl; (first | exact Gd.none | ((with_reducible apply Gd.on); exact rfl; exact rfl)); (repeat (first | (with_reducible exact PendF.nil) | ((with_reducible apply PendF.keep); exact rfl) | ((with_reducible apply PendF.gone); exact rfl))))
      | ((with_reducible apply J.pl2_off); exact rfl; ((with_reducible apply Gd.off); exact rfl; exact rfl; exact rfl); exact rfl; (repeat (first | (with_reducible exact PendF.nil) | ((with_reducible apply PendF.keep); exact rfl) | ((with_reducible apply PendF.gone); exact rfl))))
      | ((with_reducible apply J.pl2_off_none); exact rfl; ((with_reducible apply Gd.off); exact rfl; exact rfl; exact rfl); (repeat (first | (with_reducible exact PendF.nil) | ((with_reducible apply PendF.keep); exact rfl) | ((with_reducible apply PendF.gone); exact rfl))))
      | ((with_reducible first | apply J.psplit0 | apply J.psplit1 | apply J.psplit2); exact rfl; exact rfl; exact rfl)
      | (with_reducible exact J.pl_none)
      | ((with_reducible apply J.gsplit); exact rfl; exact rfl)
      | ((with_reducible first | apply J.cond | apply JC.cond); exact rfl)
      | (intro h; exfalso; fail)
      | (intro h; (try simp only [decide_eq_true_eq, decide_eq_false_iff_not, beq_iff_eq, beq_eq_false_iff_ne, Bool.not_eq_true', Bool.not_eq_false', bne_iff_ne, bne_eq_false_iff_eq, ne_eq, ge_iff_le, gt_iff_lt] at h))
      | (with_reducible apply J.gave')
      | ((with_reducible apply J.kept'); rotate_left; (repeat (first | (with_reducible exact Outs.nil) | ((with_reducible apply Outs.cons); (repeat (first | with_reducible exact Out.here | with_reducible apply Out.there))))))
    all_goals ((try dsimp only); apply J.stE; ((try dsimp only); repeat (first | exact sub.nil _ | (refine sub.consE rfl ?_ ?_; (first | with_reducible rfl | (fail) | rfl)))))
  case hbody =>
    rintro ll D rc k q hk _
    try dsimp only at *
    repeat' first
      | refine J.one ?_
      | refine J.loudS ?_
      | (refine J.loudQ ?_; intro _ _)
      | (refine J.loudB ?_; intro _)
      | (with_reducible apply J.list)
      | ((with_reducible apply JC.draw (id := 7) [0, 0, 0, 6, 14, 30, 63, 127] (.q 0 (.p 1 (.p 2 (.p 3 (.p 4 (.x 5 (.x 6 (.x 7 .nil .none) .none) .none)))))) (by kernel_rfl) ?_ (by kernel_rfl) ?_); (repeat (with_reducible first | exact PanicFree.body | exact PanicFree.np | exact PanicFree.lvS | apply PanicFree.then_ | apply PanicFree.blk)))
      | ((with_reducible apply J.pl2); exact rfl; (first | exact Gd.none | ((with_reducible apply Gd.on); exact rfl; exact rfl)); (repeat (first | (with_reducible exact PendF.nil) | ((with_reducible apply PendF.keep); exact rfl) | ((with_reducible apply PendF.gone); exact rfl))))
      | ((with_reducible apply J.pl2_off); exact rfl; ((with_reducible apply Gd.off); exact rfl; exact rfl; exact rfl); exact rfl; (repeat (first | (with_reducible exact PendF.nil) | ((with_reducible apply PendF.keep); exact rfl) | ((with_reducible apply PendF.gone); exact rfl))))
      | ((with_reducible apply J.pl2_off_none); exact rfl; ((with_reducible apply Gd.off); exact rfl; exact rfl; exact rfl); (repeat (first | (with_reducible exact PendF.nil) | ((with_reducible apply PendF.keep); exact rfl) | ((with_reducible apply PendF.gone); exact rfl))))
      | ((with_reducible first | apply J.psplit0 | apply J.psplit1 | apply J.psplit2); exact rfl; exact rfl; exact rfl)
      | (with_reducible exact J.pl_none)
      | ((with_reducible apply J.gsplit); exact rfl; exact rfl)
      | ((with_reducible first | apply J.cond | apply JC.cond); exact rfl)
      | (intro h; exfalso; fail)
      | (intro h; (try simp only [decide_eq_true_eq, decide_eq_false_iff_not, beq_iff_eq, beq_eq_false_iff_ne, Bool.not_eq_true', Bool.not_eq_false', bne_iff_ne, bne_eq_false_iff_eq, ne_eq, ge_iff_le, gt_iff_lt] at h))
      | (with_reducible apply J.gave')
      | ((with_reducible apply J.kept'); rotate_left; (repeat (first | (with_reducible exact Outs.nil) | ((with_reducible apply Outs.cons); (repeat (first | with_reducible exact Out.here | with_reducible apply Out.there))))))
    have e3 : 8 * (4 - (k + 1)) = 8 * (3 - k) + 0 := by omega
    apply J.reR (v' := .slice q.1 (8 * (3 - k) + 0) q.2) (n' := 8 * (3 - k) + 0) (C' := bcs (num (m / 256 ^ (8 * k + 8 - 0)) (8 * (3 - k) + 0)))
    · (repeat (first | with_reducible exact Upd.here | with_reducible apply Upd.there))
    · rw [e3]
    · exact e3
    · (unfold wbp; rw [e3]; rfl)
    apply J.reB (b := p3) (C' := [.slice q.1 (8 * (3 - k) + 0) q.2])
    · (repeat (first | with_reducible exact Upd.here | with_reducible apply Upd.there))
    · rw [e3]
    apply JC.loopI (σ := (Nat × (Option Addr × Nat))) (I := fun s => (s.1 ≤ 8)) (L := fun s => [(5, .int .u64 ((wx m k : Nat) : Int)), (3, .pointer (some ⟨p3, 0, none⟩)), (6, .int .i64 (56 - 8 * (s.1 : Int)))]) (HH := fun s => [obj ll (.loop rc), obj D (.deferred (some [])), blk p1 (wv (m : Int)) 27, blk p3 [.slice s.2.1 (8 * (3 - k) + s.1) s.2.2] 93, row (.slice s.2.1 (8 * (3 - k) + s.1) s.2.2) 5 1 (8 * (3 - k) + s.1) (bcs (num (m / 256 ^ (8 * k + 8 - s.1)) (8 * (3 - k) + s.1))), blk Bs [.slice (some ⟨p1, 0, none⟩) 4 4] 226]) (m := fun s => 8 - s.1) (s0 := (0, q))
    · ((try dsimp only); (exact Nat.zero_le _))
    · ((try dsimp only); repeat (first | exact sub.nil _ | (refine sub.consE rfl ?_ ?_; (first | with_reducible rfl | (fail) | rfl))))
    · ((try dsimp only); (repeat (first | (with_reducible exact Outs.nil) | ((with_reducible apply Outs.cons); (repeat (first | with_reducible exact Out.here | with_reducible apply Out.there))))))
    rintro nn ⟨j, r⟩ hnn hJ hK
    try dsimp only at hnn hJ ⊢
    rcases Nat.lt_or_ge j 8 with hq | hq
    · repeat' first
        | (refine J.qv ?_; (with_reducible apply exq); focus (first
          | ((with_reducible apply Qv.shr); exact rfl; exact rfl; omega; exact shrx hq)
          | ((with_reducible apply Qv.conv); exact rfl; exact wrapu8)))
        | refine J.one ?_
        | refine J.loudS ?_
        | (refine J.loudQ ?_; intro _ _)
        | (refine J.loudB ?_; intro _)
        | (with_reducible apply J.list)
        | ((with_reducible apply JC.draw (id := 7) [0, 0, 0, 6, 14, 30, 63, 127] (.q 0 (.p 1 (.p 2 (.p 3 (.p 4 (.x 5 (.x 6 (.x 7 .nil .none) .none) .none)))))) (by kernel_rfl) ?_ (by kernel_rfl) ?_); (repeat (with_reducible first | exact PanicFree.body | exact PanicFree.np | exact PanicFree.lvS | apply PanicFree.then_ | apply PanicFree.blk)))
        | ((with_reducible apply J.pl2); exact rfl; (first | exact Gd.none | ((with_reducible apply Gd.on); exact rfl; exact rfl)); (repeat (first | (with_reducible exact PendF.nil) | ((with_reducible apply PendF.keep); exact rfl) | ((with_reducible apply PendF.gone); exact rfl))))
        | ((with_reducible apply J.pl2_off); exact rfl; ((with_reducible apply Gd.off); exact rfl; exact rfl; exact rfl); exact rfl; (repeat (first | (with_reducible exact PendF.nil) | ((with_reducible apply PendF.keep); exact rfl) | ((with_reducible apply PendF.gone); exact rfl))))
        | ((with_reducible apply J.pl2_off_none); exact rfl; ((with_reducible apply Gd.off); exact rfl; exact rfl; exact rfl); (repeat (first | (with_reducible exact PendF.nil) | ((with_reducible apply PendF.keep); exact rfl) | ((with_reducible apply PendF.gone); exact rfl))))
        | ((with_reducible first | apply J.psplit0 | apply J.psplit1 | apply J.psplit2); exact rfl; exact rfl; exact rfl)
        | (with_reducible exact J.pl_none)
        | ((with_reducible apply J.gsplit); exact rfl; exact rfl)
        | ((with_reducible first | apply J.cond | apply JC.cond); exact rfl)
        | (intro h; exfalso; (first | (simp at h; done) | (simp at h; omega) | omega))
        | (intro h; (try simp only [decide_eq_true_eq, decide_eq_false_iff_not, beq_iff_eq, beq_eq_false_iff_ne, Bool.not_eq_true', Bool.not_eq_false', bne_iff_ne, bne_eq_false_iff_eq, ne_eq, ge_iff_le, gt_iff_lt] at h))
        | (with_reducible apply J.gave')
        | ((with_reducible apply J.kept'); rotate_left; (repeat (first | (with_reducible exact Outs.nil) | ((with_reducible apply Outs.cons); (repeat (first | with_reducible exact Out.here | with_reducible apply Out.there))))))
      all_goals
        first
        | (rename_i r2 _
           apply J.reR (v' := .slice r2.1 (8 * (3 - k) + (j + 1)) r2.2) (n' := 8 * (3 - k) + (j + 1)) (C' := bcs (num (m / 256 ^ (8 * k + 8 - (j + 1))) (8 * (3 - k) + (j + 1))))
           · (repeat (first | with_reducible exact Upd.here | with_reducible apply Upd.there))
           · rfl
           · rfl
           · (rw [← wb_step m k j (by omega) hq, bcs_append]; simp only [bcs, List.map_cons, List.map_nil, u8_cell]; rw [← wb_byte m k j hq]; rfl)
           apply J.reB (b := p3) (C' := [.slice r2.1 (8 * (3 - k) + (j + 1)) r2.2])
           · (repeat (first | with_reducible exact Upd.here | with_reducible apply Upd.there))
           · rfl
           (apply JC.againI hK (s' := (j + 1, r2)); (focus (omega)); (focus ((try dsimp only); (show j + 1 ≤ 8; omega))); (focus (((try dsimp only); repeat (first | exact sub.nil _ | (refine sub.consE rfl ?_ ?_; (first | with_reducible rfl | ((focus (first | rfl | (congr 1; omega)))) | rfl)))))); ((try dsimp only); (repeat (first | (with_reducible exact Outs.nil) | ((with_reducible apply Outs.cons); (repeat (first | with_reducible exact Out.here | with_reducible apply Out.there))))))))
        | (trace_state; fail)
    · have e0 : j = 8 := by omega
      subst e0
      repeat' first
        | refine J.one ?_
        | refine J.loudS ?_
        | (refine J.loudQ ?_; intro _ _)
        | (refine J.loudB ?_; intro _)
        | (with_reducible apply J.list)
        | ((with_reducible apply JC.draw (id := 7) [0, 0, 0, 6, 14, 30, 63, 127] (.q 0 (.p 1 (.p 2 (.p 3 (.p 4 (.x 5 (.x 6 (.x 7 .nil .none) .none) .none)))))) (by kernel_rfl) ?_ (by kernel_rfl) ?_); (repeat (with_reducible first | exact PanicFree.body | exact PanicFree.np | exact PanicFree.lvS | apply PanicFree.then_ | apply PanicFree.blk)))
        | ((with_reducible apply J.pl2); exact rfl; (first | exact Gd.none | ((with_reducible apply Gd.on); exact rfl; exact rfl)); (repeat (first | (with_reducible exact PendF.nil) | ((with_reducible apply PendF.keep); exact rfl) | ((with_reducible apply PendF.gone); exact rfl))))
        | ((with_reducible apply J.pl2_off); exact rfl; ((with_reducible apply Gd.off); exact rfl; exact rfl; exact rfl); exact rfl; (repeat (first | (with_reducible exact PendF.nil) | ((with_reducible apply PendF.keep); exact rfl) | ((with_reducible apply PendF.gone); exact rfl))))
        | ((with_reducible apply J.pl2_off_none); exact rfl; ((with_reducible apply Gd.off); exact rfl; exact rfl; exact rfl); (repeat (first | (with_reducible exact PendF.nil) | ((with_reducible apply PendF.keep); exact rfl) | ((with_reducible apply PendF.gone); exact rfl))))
        | ((with_reducible first | apply J.psplit0 | apply J.psplit1 | apply J.psplit2); exact rfl; exact rfl; exact rfl)
        | (with_reducible exact J.pl_none)
        | ((with_reducible apply J.gsplit); exact rfl; exact rfl)
        | ((with_reducible first | apply J.cond | apply JC.cond); exact rfl)
        | (intro h; exfalso; (first | (simp at h; done) | (simp at h; omega) | omega))
        | (intro h; (try simp only [decide_eq_true_eq, decide_eq_false_iff_not, beq_iff_eq, beq_eq_false_iff_ne, Bool.not_eq_true', Bool.not_eq_false', bne_iff_ne, bne_eq_false_iff_eq, ne_eq, ge_iff_le, gt_iff_lt] at h))
        | (with_reducible apply J.gave')
        | ((with_reducible apply J.kept'); rotate_left; (repeat (first | (with_reducible exact Outs.nil) | ((with_reducible apply Outs.cons); (repeat (first | with_reducible exact Out.here | with_reducible apply Out.there))))))
      all_goals
        first
        | (have e4 : 8 * (3 - k) + 8 = 8 * (4 - k) := by omega
           apply J.reR (v' := .slice r.1 (8 * (4 - k)) r.2) (n' := 8 * (4 - k)) (C' := bcs (wbp m k))
           · (repeat (first | with_reducible exact Upd.here | with_reducible apply Upd.there))
           · rw [e4]
           · exact e4
           · (unfold wbp; rw [e4]; rfl)
           apply J.reB (b := p3) (C' := [.slice r.1 (8 * (4 - k)) r.2])
           · (repeat (first | with_reducible exact Upd.here | with_reducible apply Upd.there))
           · rw [e4]
           apply J.lvN r trivial
           (dsimp only [List.cons_append, List.nil_append]; (repeat (first | (with_reducible exact Outs.nil) | ((with_reducible apply Outs.cons); (repeat (first | with_reducible exact Out.here | with_reducible apply Out.there)))))))
        | (trace_state; fail)
  case hdone =>
    rintro q _ D
    try dsimp only at *
    repeat' first
      | ((with_reducible apply J.iterB (backward_uint64 _ _ _)); exact rfl; exact rfl; intro _)
      | refine J.one ?_
      | refine J.loudS ?_
      | (refine J.loudQ ?_; intro _ _)
      | (refine J.loudB ?_; intro _)
      | (with_reducible apply J.list)
      | ((with_reducible apply JC.draw (id := 7) [0, 0, 0, 6, 14, 30, 63, 127] (.q 0 (.p 1 (.p 2 (.p 3 (.p 4 (.x 5 (.x 6 (.x 7 .nil .none) .none) .none)))))) (by kernel_rfl) ?_ (by kernel_rfl) ?_); (repeat (with_reducible first | exact PanicFree.body | exact PanicFree.np | exact PanicFree.lvS | apply PanicFree.then_ | apply PanicFree.blk)))
      | ((with_reducible apply J.pl2); exact rfl; (first | exact Gd.none | ((with_reducible apply Gd.on); exact rfl; exact rfl)); (repeat (first | (with_reducible exact PendF.nil) | ((with_reducible apply PendF.keep); exact rfl) | ((with_reducible apply PendF.gone); exact rfl))))
      | ((with_reducible apply J.pl2_off); exact rfl; ((with_reducible apply Gd.off); exact rfl; exact rfl; exact rfl); exact rfl; (repeat (first | (with_reducible exact PendF.nil) | ((with_reducible apply PendF.keep); exact rfl) | ((with_reducible apply PendF.gone); exact rfl))))
      | ((with_reducible apply J.pl2_off_none); exact rfl; ((with_reducible apply Gd.off); exact rfl; exact rfl; exact rfl); (repeat (first | (with_reducible exact PendF.nil) | ((with_reducible apply PendF.keep); exact rfl) | ((with_reducible apply PendF.gone); exact rfl))))
      | ((with_reducible first | apply J.psplit0 | apply J.psplit1 | apply J.psplit2); exact rfl; exact rfl; exact rfl)
      | (with_reducible exact J.pl_none)
      | ((with_reducible apply J.gsplit); exact rfl; exact rfl)
      | ((with_reducible first | apply J.cond | apply JC.cond); exact rfl)
      | (intro h; exfalso; fail)
      | (intro h; (try simp only [decide_eq_true_eq, decide_eq_false_iff_not, beq_iff_eq, beq_eq_false_iff_ne, Bool.not_eq_true', Bool.not_eq_false', bne_iff_ne, bne_eq_false_iff_eq, ne_eq, ge_iff_le, gt_iff_lt] at h))
      | (with_reducible apply J.gave')
      | ((with_reducible apply J.kept'); rotate_left; (repeat (first | (with_reducible exact Outs.nil) | ((with_reducible apply Outs.cons); (repeat (first | with_reducible exact Out.here | with_reducible apply Out.there))))))
    all_goals
      first
      | ((with_reducible apply J.freshRow); (repeat (first | with_reducible exact Out.here | with_reducible apply Out.there)); exact rfl; exact rfl; exact congrArg bcs (wbp_0 m))
      | (trace_state; fail)
  case hstop =>
    intro D
    exact J.absurd_ (.there .here)
end Go.Proofs.YtljbedladifgmaaGreat.Field
namespace Go.Proofs.YtljbedladifgmaaGreat.Deal
open Go Go.RowKit Eng
set_option linter.unusedVariables false
set_option maxRecDepth 100000
set_option linter.unusedSimpArgs false
open Sha Iter Hash Bytes Hsum Wide Tx Field
set_option maxHeartbeats 1000000
theorem wide_w (p : Nat) (l : List UInt8) (n : Int) (w : World) (hw : 0 ≤ n ∧ l.length ≤ 8160) : CSpec Tryz.prog 164 [.pointer (some ⟨p, 0, none⟩), .agg (wv n).toArray] [ow p l] w (Turns (.tuple #[]) [ow p (l ++ wb n)]) := by
  obtain ⟨hn, hm⟩ := hw
  obtain ⟨k, rfl, e⟩ := nat_of hn
  refine spec_of Tryz.func164 rfl Tryz.ntmps164 rfl (l0 := [(0, .pointer (some ⟨p, 0, none⟩)), (1, .agg (wv (k : Int)).toArray)]) rfl ?_
  intro fp
  repeat' first
    | ((with_reducible apply J.freshR (wide_ k)); exact rfl; exact rfl; (focus (exact RH.true_)); intro _ _)
    | ((with_reducible apply J.turnsP (put_ _ _ _ _ _ _)); exact rfl; exact rfl; (repeat (first | (with_reducible exact Outs.nil) | ((with_reducible apply Outs.cons); (repeat (first | with_reducible exact Out.here | with_reducible apply Out.there))))); (focus ((refine ⟨(num_length _ _).symm, ?_⟩; rw [num_length]; omega))); (try dsimp only [List.cons_append, List.nil_append]))
    | refine J.one ?_
    | refine J.loudS ?_
    | (refine J.loudQ ?_; intro _ _)
    | (refine J.loudB ?_; intro _)
    | (with_reducible apply J.list)
    | ((with_reducible apply J.gsplit); exact rfl; exact rfl)
    | ((with_reducible first | apply J.cond | apply JC.cond); exact rfl)
    | (intro h; exfalso; (first | (simp at h; done) | (simp at h; omega) | omega))
    | (intro h; (try simp only [decide_eq_true_eq, decide_eq_false_iff_not, beq_iff_eq, beq_eq_false_iff_ne, Bool.not_eq_true', Bool.not_eq_false', bne_iff_ne, bne_eq_false_iff_eq, ne_eq, ge_iff_le, gt_iff_lt] at h))
    | (with_reducible apply J.gave')
    | ((with_reducible apply J.kept'); rotate_left; (repeat (first | (with_reducible exact Outs.nil) | ((with_reducible apply Outs.cons); (repeat (first | with_reducible exact Out.here | with_reducible apply Out.there))))))
  all_goals ((unfold wb; rw [e]; ((with_reducible apply J.turned); exact rfl; (repeat (first | (with_reducible exact Outs.nil) | ((with_reducible apply Outs.cons); (repeat (first | with_reducible exact Out.here | with_reducible apply Out.there))))))))
theorem done_ (p : Nat) (l : List UInt8) (w : World) (hw : l.length ≤ 8192) : CSpec Tryz.prog 61 [.pointer (some ⟨p, 0, none⟩)] [ow p l] w (DoneP 5 l.length (bcs l) []) := by
  refine spec_of Tryz.func61 rfl Tryz.ntmps61 rfl (l0 := [(0, .pointer (some ⟨p, 0, none⟩))]) rfl ?_
  intro fp
  refine J.openOut .here ?_
  intro q hq
  repeat' first
    | ((with_reducible apply J.freshR (cat_ _ _ _ [l])); exact rfl; exact rfl; (focus (exact RH.and (RH.sblk (by (repeat (first | with_reducible exact In.here | with_reducible apply In.there))) (RH.lcons (RH.brow (by (repeat (first | with_reducible exact In.here | with_reducible apply In.there)))) RH.lnil)) (RH.of ⟨rfl, by simp; omega, by simp⟩))); intro _ _)
    | refine J.one ?_
    | refine J.loudS ?_
    | (refine J.loudQ ?_; intro _ _)
    | (refine J.loudB ?_; intro _)
    | (with_reducible apply J.list)
    | ((with_reducible apply J.draw (id := 4) [0, 1, 3, 7, 0, 31] (.p 0 (.p 1 (.p 2 (.q 3 (.p 4 (.p 5 .nil)))))) (by kernel_rfl) ?_ (by kernel_rfl) ?_); (repeat (with_reducible first | exact PanicFree.body | exact PanicFree.np | exact PanicFree.lvS | apply PanicFree.then_ | apply PanicFree.blk)))
    | ((with_reducible apply J.pl2); exact rfl; (first | exact Gd.none | ((with_reducible apply Gd.on); exact rfl; exact rfl)); (repeat (first | (with_reducible exact PendF.nil) | ((with_reducible apply PendF.keep); exact rfl) | ((with_reducible apply PendF.gone); exact rfl))))
    | ((with_reducible apply J.pl2_off); exact rfl; ((with_reducible apply Gd.off); exact rfl; exact rfl; exact rfl); exact rfl; (repeat (first | (with_reducible exact PendF.nil) | ((with_reducible apply PendF.keep); exact rfl) | ((with_reducible apply PendF.gone); exact rfl))))
    | ((with_reducible apply J.pl2_off_none); exact rfl; ((with_reducible apply Gd.off); exact rfl; exact rfl; exact rfl); (repeat (first | (with_reducible exact PendF.nil) | ((with_reducible apply PendF.keep); exact rfl) | ((with_reducible apply PendF.gone); exact rfl))))
    | ((with_reducible first | apply J.psplit0 | apply J.psplit1 | apply J.psplit2); exact rfl; exact rfl; exact rfl)
    | (with_reducible exact J.pl_none)
    | ((with_reducible apply J.gsplit); exact rfl; exact rfl)
    | ((with_reducible first | apply J.cond | apply JC.cond); exact rfl)
    | (intro h; exfalso; (first | (simp at h; done) | (simp at h; omega) | omega))
    | (intro h; (try simp only [decide_eq_true_eq, decide_eq_false_iff_not, beq_iff_eq, beq_eq_false_iff_ne, Bool.not_eq_true', Bool.not_eq_false', bne_iff_ne, bne_eq_false_iff_eq, ne_eq, ge_iff_le, gt_iff_lt] at h))
    | (with_reducible apply J.gave')
    | ((with_reducible apply J.kept'); rotate_left; (repeat (first | (with_reducible exact Outs.nil) | ((with_reducible apply Outs.cons); (repeat (first | with_reducible exact Out.here | with_reducible apply Out.there))))))
  all_goals
    first
    | ((with_reducible apply J.done'); (repeat (first | (with_reducible exact Outs.nil) | ((with_reducible apply Outs.cons); (repeat (first | with_reducible exact Out.here | with_reducible apply Out.there))))); exact rfl; (focus (simp; done)); (focus (first | assumption | (simp; done))); omega)
    | (trace_state; fail)
def invB (us : Int) (rt : List UInt8) (ro se re to : Int) (id : List UInt8) : List UInt8 := tx [105, 110, 118] ++ num us.toNat 6 ++ tx rt ++ num ro.toNat 6 ++ num se.toNat 6 ++ num re.toNat 6 ++ num to.toNat 6 ++ tx id
theorem inv_ok {us ro se re to : Int} {rt id : List UInt8} (h : invE us rt ro se re to id = 0) : 0 ≤ us ∧ us ≤ 1 ∧ 2 ≤ ro ∧ ro ≤ 3 ∧ 0 ≤ se ∧ se ≤ 1 ∧ 0 ≤ re ∧ re ≤ 1 ∧ 0 ≤ to ∧ to ≤ 7 ∧ rt.length = 8 ∧ 1 ≤ id.length ∧ id.length ≤ 16 := by
  unfold invE inB at h
  split at h
  · rename_i h1
    simp at h1
    omega
  · omega
def varB (va ex : Int) : List UInt8 := wb va ++ num ex.toNat 6
theorem var_ok {va ex : Int} (h : sndE va ex = 0) : va ≠ 0 ∧ 0 ≤ ex ∧ ex ≤ 1099511627776 := by
  unfold sndE inB at h
  split at h
  · rename_i h1
    simp at h1
    omega
  · omega
theorem invB_length {us ro se re to : Int} {rt id : List UInt8} : (invB us rt ro se re to id).length = 39 + rt.length + id.length := by
  unfold invB
  simp only [List.length_append, tx_length, num_length, List.length_cons, List.length_nil]
  omega
theorem varB_length {va ex : Int} : (varB va ex).length = 38 := by simp [varB, wb_length, num_length]
/-- A transfer's key. -/
def keyF (us : Int) (rt : List UInt8) (ro se re to : Int) (id : List UInt8) : List UInt8 := if invE us rt ro se re to id = 0 then sha (invB us rt ro se re to id) else []
def digB (k : List UInt8) (va ex : Int) : List UInt8 := tx k ++ varB va ex
def digF (us : Int) (rt : List UInt8) (ro se re to : Int) (id : List UInt8) (va ex : Int) : List UInt8 := if invE us rt ro se re to id = 0 ∧ sndE va ex = 0 then sha (digB (keyF us rt ro se re to id) va ex) else []
def payB (act : Int) (k : List UInt8) (fee : Int) : List UInt8 := tx [97, 99, 116] ++ num act.toNat 6 ++ tx k ++ wb fee
def payF (act : Int) (k : List UInt8) (fee : Int) : List UInt8 := if inB act 1 2 = true ∧ k.length = 32 then payB act k fee else []
theorem keyF_length (us : Int) (rt : List UInt8) (ro se re to : Int) (id : List UInt8) : (keyF us rt ro se re to id).length = if invE us rt ro se re to id = 0 then 32 else 0 := by
  unfold keyF
  split
  · exact sha_length _
  · rfl
theorem put_inv (p : Nat) (l : List UInt8) (us : Int) (rt : List UInt8) (ro se re to : Int) (id : List UInt8) (w : World) (hw : invE us rt ro se re to id = 0 ∧ l.length ≤ 4000) : CSpec Tryz.prog 60 [.pointer (some ⟨p, 0, none⟩), .agg (invc us rt ro se re to id).toArray] [ow p l] w (Turns (.tuple #[]) [ow p (l ++ invB us rt ro se re to id)]) := by
  obtain ⟨hi, hm⟩ := hw
  obtain ⟨u0, u1, r0, r1, s0, s1, e0, e1, t0, t1, rl, i0, i1⟩ := inv_ok hi
  refine spec_of Tryz.func60 rfl Tryz.ntmps60 rfl (l0 := [(0, .pointer (some ⟨p, 0, none⟩)), (1, .agg (invc us rt ro se re to id).toArray)]) rfl ?_
  intro fp
  repeat' first
    | (with_reducible refine J.rounds 5 ?_)
    | (with_reducible apply J.round)
    | ((with_reducible apply J.turnsP (text_w _ _ _)); exact rfl; exact rfl; (repeat (first | (with_reducible exact Outs.nil) | ((with_reducible apply Outs.cons); (repeat (first | with_reducible exact Out.here | with_reducible apply Out.there))))); (focus ((refine ⟨?_, ?_⟩ <;> first | (simp; done) | omega | (simp only [List.length_append, tx_length, num_length, wb_length, List.length_cons, List.length_nil]; omega)))); (try dsimp only [List.cons_append, List.nil_append]))
    | ((with_reducible apply J.turnsP (num_w _ _ _)); exact rfl; exact rfl; (repeat (first | (with_reducible exact Outs.nil) | ((with_reducible apply Outs.cons); (repeat (first | with_reducible exact Out.here | with_reducible apply Out.there))))); (focus ((refine ⟨?_, ?_, ?_⟩ <;> first | omega | (simp only [List.length_append, tx_length, num_length, wb_length, List.length_cons, List.length_nil]; omega)))); (try dsimp only [List.cons_append, List.nil_append]))
    | refine J.one ?_
    | refine J.loudS ?_
    | (refine J.loudQ ?_; intro _ _)
    | (refine J.loudB ?_; intro _)
    | (with_reducible apply J.list)
    | ((with_reducible apply J.gsplit); exact rfl; exact rfl)
    | ((with_reducible first | apply J.cond | apply JC.cond); exact rfl)
    | (intro h; exfalso; (first | (revert h; decide) | (simp at h; done)))
    | (intro h; (try simp only [decide_eq_true_eq, decide_eq_false_iff_not, beq_iff_eq, beq_eq_false_iff_ne, Bool.not_eq_true', Bool.not_eq_false', bne_iff_ne, bne_eq_false_iff_eq, ne_eq, ge_iff_le, gt_iff_lt] at h))
    | (with_reducible apply J.gave')
    | ((with_reducible apply J.kept'); rotate_left; (repeat (first | (with_reducible exact Outs.nil) | ((with_reducible apply Outs.cons); (repeat (first | with_reducible exact Out.here | with_reducible apply Out.there))))))
  all_goals
    first
    | (apply J.reOut (bs' := l ++ invB us rt ro se re to id)
       · (repeat (first | with_reducible exact Upd.here | with_reducible apply Upd.there))
       · unfold invB; simp only [List.append_assoc]
       ((with_reducible apply J.turned); exact rfl; (repeat (first | (with_reducible exact Outs.nil) | ((with_reducible apply Outs.cons); (repeat (first | with_reducible exact Out.here | with_reducible apply Out.there)))))))
    | (trace_state; fail)
theorem put_var (p : Nat) (l : List UInt8) (va ex : Int) (w : World) (hw : 0 ≤ va ∧ 0 ≤ ex ∧ ex ≤ 1099511627776 ∧ l.length ≤ 4000) : CSpec Tryz.prog 156 [.pointer (some ⟨p, 0, none⟩), .agg (varc va ex).toArray] [ow p l] w (Turns (.tuple #[]) [ow p (l ++ varB va ex)]) := by
  obtain ⟨hv, h0, h1, hm⟩ := hw
  refine spec_of Tryz.func156 rfl Tryz.ntmps156 rfl (l0 := [(0, .pointer (some ⟨p, 0, none⟩)), (1, .agg (varc va ex).toArray)]) rfl ?_
  intro fp
  repeat' first
    | ((with_reducible apply J.turnsP (wide_w _ _ _)); exact rfl; exact rfl; (repeat (first | (with_reducible exact Outs.nil) | ((with_reducible apply Outs.cons); (repeat (first | with_reducible exact Out.here | with_reducible apply Out.there))))); (focus ((refine ⟨?_, ?_⟩ <;> first | omega | (simp only [List.length_append, tx_length, num_length, wb_length, List.length_cons, List.length_nil]; omega)))); (try dsimp only [List.cons_append, List.nil_append]))
    | ((with_reducible apply J.turnsP (num_w _ _ _)); exact rfl; exact rfl; (repeat (first | (with_reducible exact Outs.nil) | ((with_reducible apply Outs.cons); (repeat (first | with_reducible exact Out.here | with_reducible apply Out.there))))); (focus ((refine ⟨?_, ?_, ?_⟩ <;> first | omega | (simp only [List.length_append, tx_length, num_length, wb_length, List.length_cons, List.length_nil]; omega)))); (try dsimp only [List.cons_append, List.nil_append]))
    | refine J.one ?_
    | refine J.loudS ?_
    | (refine J.loudQ ?_; intro _ _)
    | (refine J.loudB ?_; intro _)
    | (with_reducible apply J.list)
    | ((with_reducible apply J.gsplit); exact rfl; exact rfl)
    | ((with_reducible first | apply J.cond | apply JC.cond); exact rfl)
    | (intro h; exfalso; (first | (simp at h; done) | (simp at h; omega) | omega))
    | (intro h; (try simp only [decide_eq_true_eq, decide_eq_false_iff_not, beq_iff_eq, beq_eq_false_iff_ne, Bool.not_eq_true', Bool.not_eq_false', bne_iff_ne, bne_eq_false_iff_eq, ne_eq, ge_iff_le, gt_iff_lt] at h))
    | (with_reducible apply J.gave')
    | ((with_reducible apply J.kept'); rotate_left; (repeat (first | (with_reducible exact Outs.nil) | ((with_reducible apply Outs.cons); (repeat (first | with_reducible exact Out.here | with_reducible apply Out.there))))))
  all_goals
    first
    | (apply J.reOut (bs' := l ++ varB va ex)
       · (repeat (first | with_reducible exact Upd.here | with_reducible apply Upd.there))
       · unfold varB; simp only [List.append_assoc]
       ((with_reducible apply J.turned); exact rfl; (repeat (first | (with_reducible exact Outs.nil) | ((with_reducible apply Outs.cons); (repeat (first | with_reducible exact Out.here | with_reducible apply Out.there)))))))
    | (trace_state; fail)
theorem key_ (us : Int) (rt : List UInt8) (ro se re to : Int) (id : List UInt8) (w : World) (hw : True) : CSpec Tryz.prog 21 [.agg (invc us rt ro se re to id).toArray] [] w (Gives (str (keyF us rt ro se re to id))) := by
  have hok := fun hi : invE us rt ro se re to id = 0 => inv_ok hi
  refine spec_own0 Tryz.func21 rfl Tryz.ntmps21 rfl (l0 := [(0, .agg (invc us rt ro se re to id).toArray)]) rfl ?_
  repeat' first
    | ((with_reducible apply J.givesW (dealCheck _ _ _ _ _ _ _)); exact rfl; exact rfl)
    | ((with_reducible apply J.newP new_); exact rfl; exact rfl; trivial; intro _; (try dsimp only [List.cons_append, List.nil_append]))
    | ((with_reducible apply J.turnsP (put_inv _ _ _ _ _ _ _ _ _)); exact rfl; exact rfl; (repeat (first | (with_reducible exact Outs.nil) | ((with_reducible apply Outs.cons); (repeat (first | with_reducible exact Out.here | with_reducible apply Out.there))))); (focus (exact ⟨by assumption, by simp⟩)); (try dsimp only [List.cons_append, List.nil_append]))
    | ((with_reducible apply J.doneP (done_ _ _)); exact rfl; exact rfl; (repeat (first | (with_reducible exact Outs.nil) | ((with_reducible apply Outs.cons); (repeat (first | with_reducible exact Out.here | with_reducible apply Out.there))))); (focus ((simp [invB_length]; omega))); intro _ _; (try dsimp only [List.cons_append, List.nil_append]))
    | ((with_reducible apply J.givesR (text_ _ _ _ [invB us rt ro se re to id])); exact rfl; exact rfl; (focus (exact RH.and (RH.sblk (by (repeat (first | with_reducible exact In.here | with_reducible apply In.there))) (RH.lcons (RH.brow (by (repeat (first | with_reducible exact In.here | with_reducible apply In.there)))) RH.lnil)) (RH.of ⟨rfl, by simp [invB_length]; try omega, by simp⟩))))
    | refine J.one ?_
    | refine J.loudS ?_
    | (refine J.loudQ ?_; intro _ _)
    | (refine J.loudB ?_; intro _)
    | (with_reducible apply J.list)
    | ((with_reducible apply J.gsplit); exact rfl; exact rfl)
    | ((with_reducible first | apply J.cond | apply JC.cond); exact rfl)
    | (intro h; exfalso; fail)
    | (intro h; (try simp only [decide_eq_true_eq, decide_eq_false_iff_not, beq_iff_eq, beq_eq_false_iff_ne, Bool.not_eq_true', Bool.not_eq_false', bne_iff_ne, bne_eq_false_iff_eq, ne_eq, ge_iff_le, gt_iff_lt] at h))
    | (with_reducible apply J.gave')
    | ((with_reducible apply J.kept'); rotate_left; (repeat (first | (with_reducible exact Outs.nil) | ((with_reducible apply Outs.cons); (repeat (first | with_reducible exact Out.here | with_reducible apply Out.there))))))
  all_goals
    first
    | (simp only [retv]; unfold keyF; rw [if_neg (by assumption)]; done)
    | (simp only [retv]; unfold keyF; rw [if_pos (by assumption)]; simp; done)
    | (trace_state; fail)
theorem digest_ (us : Int) (rt : List UInt8) (ro se re to : Int) (id : List UInt8) (va ex : Int) (w : World) (hw : Wd va) : CSpec Tryz.prog 142 [.agg (invc us rt ro se re to id).toArray, .agg (varc va ex).toArray] [] w (Gives (str (digF us rt ro se re to id va ex))) := by
  have hok := fun hi : invE us rt ro se re to id = 0 => inv_ok hi
  have hv := fun hi : sndE va ex = 0 => var_ok hi
  have hwd : 0 ≤ va := hw.1
  have hk : (keyF us rt ro se re to id).length = if invE us rt ro se re to id = 0 then 32 else 0 := keyF_length _ _ _ _ _ _ _
  have hn : keyF us rt ro se re to id = [] → invE us rt ro se re to id ≠ 0 := fun h0 hi => by rw [h0, if_pos hi] at hk; simp at hk
  have hn' : ¬keyF us rt ro se re to id = [] → invE us rt ro se re to id = 0 := fun h0 => Classical.byContradiction fun hi => h0 (List.eq_nil_of_length_eq_zero (by rw [hk, if_neg hi]))
  have hl : (keyF us rt ro se re to id).length ≤ 32 := by rw [hk]; split <;> omega
  refine spec_own0 Tryz.func142 rfl Tryz.ntmps142 rfl (l0 := [(0, .agg (invc us rt ro se re to id).toArray), (1, .agg (varc va ex).toArray)]) rfl ?_
  repeat' first
    | ((with_reducible apply J.givesR (key_ _ _ _ _ _ _ _)); exact rfl; exact rfl; focus (exact RH.true_))
    | ((with_reducible apply J.givesW (sound _ _ hw)); exact rfl; exact rfl)
    | ((with_reducible apply J.newP new_); exact rfl; exact rfl; trivial; intro _; (try dsimp only [List.cons_append, List.nil_append]))
    | ((with_reducible apply J.turnsP (text_w _ _ _)); exact rfl; exact rfl; (repeat (first | (with_reducible exact Outs.nil) | ((with_reducible apply Outs.cons); (repeat (first | with_reducible exact Out.here | with_reducible apply Out.there))))); (focus ((refine ⟨by omega, ?_⟩; simp; omega))); (try dsimp only [List.cons_append, List.nil_append]))
    | ((with_reducible apply J.turnsP (put_var _ _ _ _)); exact rfl; exact rfl; (repeat (first | (with_reducible exact Outs.nil) | ((with_reducible apply Outs.cons); (repeat (first | with_reducible exact Out.here | with_reducible apply Out.there))))); (focus (have hv2 := hv (by assumption); exact ⟨hwd, hv2.2.1, hv2.2.2, (by simp [tx_length]; omega)⟩)); (try dsimp only [List.cons_append, List.nil_append]))
    | ((with_reducible apply J.doneP (done_ _ _)); exact rfl; exact rfl; (repeat (first | (with_reducible exact Outs.nil) | ((with_reducible apply Outs.cons); (repeat (first | with_reducible exact Out.here | with_reducible apply Out.there))))); (focus ((simp [tx_length, varB_length]; omega))); intro _ _; (try dsimp only [List.cons_append, List.nil_append]))
    | ((with_reducible apply J.givesR (text_ _ _ _ [tx (keyF us rt ro se re to id) ++ varB va ex])); exact rfl; exact rfl; (focus (exact RH.and (RH.sblk (by (repeat (first | with_reducible exact In.here | with_reducible apply In.there))) (RH.lcons (RH.brow (by (repeat (first | with_reducible exact In.here | with_reducible apply In.there)))) RH.lnil)) (RH.of ⟨rfl, by simp [tx_length, varB_length]; try omega, by simp⟩))))
    | refine J.one ?_
    | refine J.loudS ?_
    | (refine J.loudQ ?_; intro _ _)
    | (refine J.loudB ?_; intro _)
    | (with_reducible apply J.list)
    | ((with_reducible apply J.gsplit); exact rfl; exact rfl)
    | ((with_reducible first | apply J.cond | apply JC.cond); exact rfl)
    | (intro h; exfalso; fail)
    | (intro h; (try simp only [decide_eq_true_eq, decide_eq_false_iff_not, beq_iff_eq, beq_eq_false_iff_ne, Bool.not_eq_true', Bool.not_eq_false', bne_iff_ne, bne_eq_false_iff_eq, ne_eq, ge_iff_le, gt_iff_lt] at h))
    | (with_reducible apply J.gave')
    | ((with_reducible apply J.kept'); rotate_left; (repeat (first | (with_reducible exact Outs.nil) | ((with_reducible apply Outs.cons); (repeat (first | with_reducible exact Out.here | with_reducible apply Out.there))))))
  all_goals
    first
    | (simp only [retv]; unfold digF; rw [if_neg (by intro hc; exact hn (by assumption) hc.1)]; done)
    | (simp only [retv]; unfold digF; rw [if_neg (by intro hc; exact absurd hc.2 (by assumption))]; done)
    | (simp only [retv]; unfold digF; rw [if_pos ⟨hn' (by assumption), (by assumption)⟩]; simp [digB]; done)
    | (trace_state; fail)
theorem payB_length {act : Int} {k : List UInt8} {fee : Int} : (payB act k fee).length = 45 + k.length := by
  unfold payB
  simp only [List.length_append, tx_length, num_length, wb_length, List.length_cons, List.length_nil]
  omega
theorem in_iff {n a b : Int} (h : inB n a b = true) : a ≤ n ∧ n ≤ b := by unfold inB at h; simp at h; omega
theorem payload_ (act : Int) (k : List UInt8) (fee : Int) (w : World) (hw : 0 ≤ fee ∧ k.length ≤ 140737488351232) : CSpec Tryz.prog 158 [.int .i64 act, str k, .agg (wv fee).toArray] [] w (Fresh 5 1 (payF act k fee).length (bcs (payF act k fee)) []) := by
  obtain ⟨hf, hkl⟩ := hw
  refine spec_own0 Tryz.func158 rfl Tryz.ntmps158 rfl (l0 := [(0, .int .i64 act), (1, str k), (2, .agg (wv fee).toArray)]) rfl ?_
  repeat' first
    | ((with_reducible apply J.givesW (in_ _ _ _)); exact rfl; exact rfl)
    | ((with_reducible apply J.newP new_); exact rfl; exact rfl; trivial; intro _; (try dsimp only [List.cons_append, List.nil_append]))
    | ((with_reducible apply J.turnsP (text_w _ _ _)); exact rfl; exact rfl; (repeat (first | (with_reducible exact Outs.nil) | ((with_reducible apply Outs.cons); (repeat (first | with_reducible exact Out.here | with_reducible apply Out.there))))); (focus ((refine ⟨?_, ?_⟩ <;> first | omega | (simp; done) | (simp [tx_length, num_length]; done) | (simp [tx_length, num_length]; omega)))); (try dsimp only [List.cons_append, List.nil_append]))
    | ((with_reducible apply J.turnsP (num_w _ _ _)); exact rfl; exact rfl; (repeat (first | (with_reducible exact Outs.nil) | ((with_reducible apply Outs.cons); (repeat (first | with_reducible exact Out.here | with_reducible apply Out.there))))); (focus ((have hin := in_iff (by assumption); refine ⟨?_, ?_, ?_⟩ <;> first | omega | (simp [tx_length]; done) | (simp [tx_length]; omega)))); (try dsimp only [List.cons_append, List.nil_append]))
    | ((with_reducible apply J.turnsP (wide_w _ _ _)); exact rfl; exact rfl; (repeat (first | (with_reducible exact Outs.nil) | ((with_reducible apply Outs.cons); (repeat (first | with_reducible exact Out.here | with_reducible apply Out.there))))); (focus ((refine ⟨?_, ?_⟩ <;> first | omega | (simp [tx_length, num_length]; done) | (simp [tx_length, num_length]; omega)))); (try dsimp only [List.cons_append, List.nil_append]))
    | ((with_reducible apply J.doneP (done_ _ _)); exact rfl; exact rfl; (repeat (first | (with_reducible exact Outs.nil) | ((with_reducible apply Outs.cons); (repeat (first | with_reducible exact Out.here | with_reducible apply Out.there))))); (focus ((simp [tx_length, num_length, wb_length]; try omega))); intro _ _; (try dsimp only [List.cons_append, List.nil_append]))
    | refine J.one ?_
    | refine J.loudS ?_
    | (refine J.loudQ ?_; intro _ _)
    | (refine J.loudB ?_; intro _)
    | (with_reducible apply J.list)
    | ((with_reducible apply J.gsplit); exact rfl; exact rfl)
    | ((with_reducible first | apply J.cond | apply JC.cond); exact rfl)
    | (intro h; exfalso; fail)
    | (intro h; (try simp only [decide_eq_true_eq, decide_eq_false_iff_not, beq_iff_eq, beq_eq_false_iff_ne, Bool.not_eq_true', Bool.not_eq_false', bne_iff_ne, bne_eq_false_iff_eq, ne_eq, ge_iff_le, gt_iff_lt] at h))
    | (with_reducible apply J.gave')
    | ((with_reducible apply J.kept'); rotate_left; (repeat (first | (with_reducible exact Outs.nil) | ((with_reducible apply Outs.cons); (repeat (first | with_reducible exact Out.here | with_reducible apply Out.there))))))
  all_goals
    first
    | (have e : payF act k fee = [] := by unfold payF; exact if_neg (by intro hc; simp_all)
       rw [e]
       refine J.nilRow 5 1 ?_
       (with_reducible apply J.freshRow)
       (repeat (first | with_reducible exact Out.here | with_reducible apply Out.there))
       all_goals rfl)
    | (have e : payF act k fee = payB act k fee := by unfold payF; exact if_pos ⟨by assumption, by omega⟩
       rw [e]
       (with_reducible apply J.freshRow)
       (repeat (first | with_reducible exact Out.here | with_reducible apply Out.there))
       exact rfl
       exact rfl
       rfl)
    | (trace_state; fail)
end Go.Proofs.YtljbedladifgmaaGreat.Deal
namespace Go.Proofs.YtljbedladifgmaaGreat.Ots
open Go Go.RowKit Eng
set_option linter.unusedVariables false
set_option maxRecDepth 100000
set_option linter.unusedSimpArgs false
open Sha Iter Hash Bytes
set_option maxHeartbeats 1000000
open Go.Proofs.YtljbedladifgmaaGreat.Hsum
/-- Whole numbers as cells. -/
def ncs (l : List Nat) : List Value := l.map fun (x : Nat) => .int .i64 (x : Int)
theorem ncs_length (l : List Nat) : (ncs l).length = l.length := by simp [ncs]
theorem ncs_append (l m : List Nat) : ncs (l ++ m) = ncs l ++ ncs m := by simp [ncs]
theorem ncs_get {l : List Nat} {i x : Nat} (h : l[i]? = some x) : (ncs l)[i]? = some (.int .i64 (x : Int)) := by simp [ncs, h]
theorem ncs_ones (l : List Nat) : (ncs l).all (·.oneCell') = true := by simp [ncs, Value.oneCell']
/-- A number's digits, the highest first. -/
def sp (n : Nat) : Nat → List Nat
  | 0 => []
  | k + 1 => sp (n / 4) k ++ [n % 4]
theorem sp_length : ∀ (k n : Nat), (sp n k).length = k
  | 0, _ => rfl
  | k + 1, n => by simp [sp, sp_length k]
theorem sp_get : ∀ {k n j : Nat}, j < k → (sp n k)[j]? = some (n / 4 ^ (k - 1 - j) % 4)
  | 0, _, j, h => by omega
  | k + 1, n, j, h => by
    rw [sp]
    rcases Nat.lt_or_ge j k with h1 | h1
    · rw [List.getElem?_append_left (by rw [sp_length]; exact h1), sp_get h1, Nat.div_div_eq_div_mul]
      congr 3
      rw [show k + 1 - 1 - j = (k - 1 - j) + 1 by omega, Nat.pow_succ, Nat.mul_comm]
    · have e : j = k := by omega
      subst e
      rw [List.getElem?_append_right (by rw [sp_length]; exact Nat.le_refl _), sp_length]
      simp
theorem sp_le {n k x : Nat} (h : x ∈ sp n k) : x ≤ 3 := by
  obtain ⟨j, hj, e⟩ := List.getElem_of_mem h
  have h1 := List.getElem?_eq_getElem hj
  rw [sp_length] at hj
  rw [sp_get hj, e] at h1
  cases h1
  omega
theorem sp_tab (n k : Nat) : ncs (sp n k) = tab (fun j => .int .i64 ((n / 4 ^ (k - 1 - j) % 4 : Nat) : Int)) k := by
  refine tab_eq (by rw [ncs_length, sp_length]) fun j hj => ?_
  rw [ncs_get (sp_get hj)]
theorem sum_take {l : List Nat} {i x : Nat} (h : l[i]? = some x) : (l.take (i + 1)).sum = (l.take i).sum + x := by
  rw [List.take_add_one, h]
  simp
theorem sum_le {l : List Nat} (h : ∀ x, x ∈ l → x ≤ 3) : l.sum ≤ 3 * l.length := by
  induction l with
  | nil => simp
  | cons a l ih =>
    have h1 := ih fun x hx => h x (by simp [hx])
    have h2 := h a (by simp)
    simp
    omega
theorem sum_take_le {n k i : Nat} : ((sp n k).take i).sum ≤ 3 * k := by
  have h := sum_le (l := (sp n k).take i) fun x hx => sp_le (List.mem_of_mem_take hx)
  have h2 : ((sp n k).take i).length ≤ k := by rw [List.length_take, sp_length]; omega
  omega
/-- The digits that are there with k rounds to go. -/
def dpart (n size k : Nat) (j : Nat) : Value := if k ≤ j then .int .i64 ((n / 4 ^ (size - 1 - j) % 4 : Nat) : Int) else .int .i64 0
theorem dpart_put {n size k : Nat} (hk : k < size) : tab (fun j => if j = k then Value.int .i64 ((n / 4 ^ (size - (k + 1)) % 4 : Nat) : Int) else dpart n size (k + 1) j) size = tab (dpart n size k) size := by
  refine tab_same fun j hj => ?_
  unfold dpart
  by_cases h : j = k
  · subst h
    rw [if_pos rfl, if_pos (Nat.le_refl _)]
    congr 5
    omega
  · rw [if_neg h]
    by_cases h2 : k ≤ j
    · rw [if_pos (by omega), if_pos h2]
    · rw [if_neg (by omega), if_neg h2]
theorem and64_low {m : Nat} (h1 : m < 9223372036854775808) (k : Nat) (hk : k ≤ 32) : andI .i64 (m : Int) ((2 ^ k - 1 : Nat) : Int) = ((m % 2 ^ k : Nat) : Int) := by
  have hp : 2 ^ k ≤ 4294967296 := Nat.le_trans (Nat.pow_le_pow_right (n := 2) (by omega) hk) (by omega)
  have hp0 := Nat.two_pow_pos k
  have e1 : (BitVec.ofInt IntKind.i64.bits (m : Int) &&& BitVec.ofInt IntKind.i64.bits ((2 ^ k - 1 : Nat) : Int)).toNat = m % 2 ^ k := by
    rw [BitVec.toNat_and, BitVec.ofInt_natCast, BitVec.ofInt_natCast, BitVec.toNat_ofNat, BitVec.toNat_ofNat]
    have b : IntKind.i64.bits = 64 := rfl
    rw [b, Nat.mod_eq_of_lt (by omega), Nat.mod_eq_of_lt (a := 2 ^ k - 1) (by omega), Nat.and_two_pow_sub_one_eq_mod]
  unfold andI
  rw [e1]
  have h2 := Nat.mod_lt m hp0
  exact wr64 (by omega) (by omega) rfl
theorem and3 {m : Nat} (h : m < 9223372036854775808) : andI .i64 (m : Int) 3 = ((m % 4 : Nat) : Int) := and64_low h 2 (by decide)
theorem shr2 {n size k : Nat} (hk : k < size) : ((n / 4 ^ (size - (k + 1)) : Nat) : Int).fdiv (2 ^ 2) = ((n / 4 ^ (size - k) : Nat) : Int) := by
  rw [Int.fdiv_eq_ediv_of_nonneg _ (by decide)]
  have e : size - k = size - (k + 1) + 1 := by omega
  rw [e, Nat.pow_succ, ← Nat.div_div_eq_div_mul]
  generalize n / 4 ^ (size - (k + 1)) = q
  omega
theorem divq (n k : Nat) : n / 4 ^ k ≤ n := Nat.div_le_self _ _
theorem spread_ (n size : Nat) (w : World) (hw : n ≤ 1099511627776 ∧ size ≤ 12) : CSpec Tryz.prog 180 [.int .i64 (n : Int), .int .i64 (size : Int)] [] w (Fresh 3 1 size (ncs (sp n size)) []) := by
  have hdv := fun k => divq n k
  refine spec_ownM Tryz.func180 rfl Tryz.ntmps180 rfl (l0 := [(0, .int .i64 (n : Int)), (1, .int .i64 (size : Int))]) rfl ?_
  refine J.noPanic ?_
  repeat' first
    | (refine J.qv ?_; (with_reducible apply exq); focus (first
      | ((with_reducible apply Qv.shr); exact rfl; exact rfl; (first | decide | omega); exact shr2 hk)
      | ((with_reducible apply Qv.andE); exact rfl; exact rfl; exact and3 (Nat.lt_of_le_of_lt (hdv _) (by omega)))
      | ((with_reducible apply Qv.indexBlk (b := b)); exact rfl; exact rfl; (constructor <;> omega); exact rfl)))
    | ((with_reducible apply J.makeSlice (len := size)); exact rfl; exact rfl; exact rfl; exact rfl; exact rfl; omega; decide; intro _)
    | ((with_reducible apply J.store1); exact rfl; exact rfl; exact rfl; (repeat (first | with_reducible exact Upd.here | with_reducible apply Upd.there)); exact tab_put (k := k) (by simp) hk; (rw [tab_length]; omega))
    | ((with_reducible apply J.iterB (backward_int _ _ _)); exact rfl; exact rfl; intro _)
    | refine J.one ?_
    | refine J.loudS ?_
    | (refine J.loudQ ?_; intro _ _)
    | (refine J.loudB ?_; intro _)
    | (with_reducible apply J.list)
    | ((with_reducible apply J.gsplit); exact rfl; exact rfl)
    | ((with_reducible first | apply J.cond | apply JC.cond); exact rfl)
    | (intro h; exfalso; fail)
    | (intro h; (try simp only [decide_eq_true_eq, decide_eq_false_iff_not, beq_iff_eq, beq_eq_false_iff_ne, Bool.not_eq_true', Bool.not_eq_false', bne_iff_ne, bne_eq_false_iff_eq, ne_eq, ge_iff_le, gt_iff_lt] at h))
    | (with_reducible apply J.gave')
    | ((with_reducible apply J.kept'); rotate_left; (repeat (first | (with_reducible exact Outs.nil) | ((with_reducible apply Outs.cons); (repeat (first | with_reducible exact Out.here | with_reducible apply Out.there))))))
  rename_i p2 b p5 Bs
  have e0 : n = n / 4 ^ (size - size) := by simp
  have e1 : tab (fun _ => Value.int .i64 0) size = tab (dpart n size size) size := tab_same fun j hj => by unfold dpart; rw [if_neg (by omega)]
  rw [e1]
  apply J.reB (b := p2) (C' := [.int .i64 ((n / 4 ^ (size - size) : Nat) : Int)])
  · (repeat (first | with_reducible exact Upd.here | with_reducible apply Upd.there))
  · rw [← e0]
  apply J.rangeG (ps := [11, 12]) (back_int Bs b size size (fun _ => 0) (by simp only [maxLen]; omega)) (fun _ (_ : Unit) => True) (fun k _ => [blk b (tab (dpart n size k) size) 3, blk p5 [.slice (some ⟨b, 0, none⟩) size size] 23, blk p2 [.int .i64 ((n / 4 ^ (size - k) : Nat) : Int)] 3, blk Bs [.slice (some ⟨b, 0, none⟩) size size] 23]) [falseA] (fun k => [(6, .int .i64 (k : Int)), (5, .pointer (some ⟨p5, 0, none⟩)), (2, .pointer (some ⟨p2, 0, none⟩))]) ()
  case hg => rfl
  case hps => rfl
  case hlen => exact fun k => rfl
  case hF => exact fun k _ W _ s => ⟨s.cell (.tail _ (.tail _ (.tail _ (.head _)))) rfl, fun j hj hlt => s.cell (.head _) (by subst hj; rw [tab_get hlt]; unfold dpart; rw [if_neg (by omega)])⟩
  case hI => trivial
  case ho => ((try dsimp only); (repeat (first | (with_reducible exact Outs.nil) | ((with_reducible apply Outs.cons); (repeat (first | with_reducible exact Out.here | with_reducible apply Out.there))))))
  case hm => kernel_rfl
  case hka => rfl
  case hkb => rfl
  case hassign =>
    intro k A
    try dsimp only [putSl]
    repeat' first
      | (refine J.qv ?_; (with_reducible apply exq); focus (first
        | ((with_reducible apply Qv.shr); exact rfl; exact rfl; (first | decide | omega); exact shr2 hk)
        | ((with_reducible apply Qv.andE); exact rfl; exact rfl; exact and3 (Nat.lt_of_le_of_lt (hdv _) (by omega)))
        | ((with_reducible apply Qv.indexBlk (b := b)); exact rfl; exact rfl; (constructor <;> omega); exact rfl)))
      | ((with_reducible apply J.makeSlice (len := size)); exact rfl; exact rfl; exact rfl; exact rfl; exact rfl; omega; decide; intro _)
      | ((with_reducible apply J.store1); exact rfl; exact rfl; exact rfl; (repeat (first | with_reducible exact Upd.here | with_reducible apply Upd.there)); exact tab_put (k := k) (by simp) hk; (rw [tab_length]; omega))
      | ((with_reducible apply J.iterB (backward_int _ _ _)); exact rfl; exact rfl; intro _)
      | refine J.one ?_
      | refine J.loudS ?_
      | (refine J.loudQ ?_; intro _ _)
      | (refine J.loudB ?_; intro _)
      | (with_reducible apply J.list)
      | ((with_reducible apply J.gsplit); exact rfl; exact rfl)
      | ((with_reducible first | apply J.cond | apply JC.cond); exact rfl)
      | (intro h; exfalso; fail)
      | (intro h; (try simp only [decide_eq_true_eq, decide_eq_false_iff_not, beq_iff_eq, beq_eq_false_iff_ne, Bool.not_eq_true', Bool.not_eq_false', bne_iff_ne, bne_eq_false_iff_eq, ne_eq, ge_iff_le, gt_iff_lt] at h))
      | (with_reducible apply J.gave')
      | ((with_reducible apply J.kept'); rotate_left; (repeat (first | (with_reducible exact Outs.nil) | ((with_reducible apply Outs.cons); (repeat (first | with_reducible exact Out.here | with_reducible apply Out.there))))))
    all_goals ((try dsimp only); apply J.stE; ((try dsimp only); repeat (first | exact sub.nil _ | (refine sub.consE rfl ?_ ?_; (first | with_reducible rfl | (fail) | rfl)))))
  case hbody =>
    rintro ll D rc k ⟨⟩ hk _
    try dsimp only at *
    repeat' first
      | (refine J.qv ?_; (with_reducible apply exq); focus (first
        | ((with_reducible apply Qv.shr); exact rfl; exact rfl; (first | decide | omega); exact shr2 hk)
        | ((with_reducible apply Qv.andE); exact rfl; exact rfl; exact and3 (Nat.lt_of_le_of_lt (hdv _) (by omega)))
        | ((with_reducible apply Qv.indexBlk (b := b)); exact rfl; exact rfl; (constructor <;> omega); exact rfl)))
      | ((with_reducible apply J.makeSlice (len := size)); exact rfl; exact rfl; exact rfl; exact rfl; exact rfl; omega; decide; intro _)
      | ((with_reducible apply J.store1); exact rfl; exact rfl; exact rfl; (repeat (first | with_reducible exact Upd.here | with_reducible apply Upd.there)); exact tab_put (k := k) (by simp) hk; (rw [tab_length]; omega))
      | ((with_reducible apply J.iterB (backward_int _ _ _)); exact rfl; exact rfl; intro _)
      | refine J.one ?_
      | refine J.loudS ?_
      | (refine J.loudQ ?_; intro _ _)
      | (refine J.loudB ?_; intro _)
      | (with_reducible apply J.list)
      | ((with_reducible apply J.gsplit); exact rfl; exact rfl)
      | ((with_reducible first | apply J.cond | apply JC.cond); exact rfl)
      | (intro h; exfalso; fail)
      | (intro h; (try simp only [decide_eq_true_eq, decide_eq_false_iff_not, beq_iff_eq, beq_eq_false_iff_ne, Bool.not_eq_true', Bool.not_eq_false', bne_iff_ne, bne_eq_false_iff_eq, ne_eq, ge_iff_le, gt_iff_lt] at h))
      | (with_reducible apply J.gave')
      | ((with_reducible apply J.kept'); rotate_left; (repeat (first | (with_reducible exact Outs.nil) | ((with_reducible apply Outs.cons); (repeat (first | with_reducible exact Out.here | with_reducible apply Out.there))))))
    all_goals
      first
      | (rw [dpart_put hk]
         apply J.lvN () trivial
         (dsimp only [List.cons_append, List.nil_append]; (repeat (first | (with_reducible exact Outs.nil) | ((with_reducible apply Outs.cons); (repeat (first | with_reducible exact Out.here | with_reducible apply Out.there)))))))
      | (trace_state; fail)
  case hdone =>
    rintro ⟨⟩ _ D
    try dsimp only at *
    repeat' first
      | (refine J.qv ?_; (with_reducible apply exq); focus (first
        | ((with_reducible apply Qv.shr); exact rfl; exact rfl; (first | decide | omega); exact shr2 hk)
        | ((with_reducible apply Qv.andE); exact rfl; exact rfl; exact and3 (Nat.lt_of_le_of_lt (hdv _) (by omega)))
        | ((with_reducible apply Qv.indexBlk (b := b)); exact rfl; exact rfl; (constructor <;> omega); exact rfl)))
      | ((with_reducible apply J.makeSlice (len := size)); exact rfl; exact rfl; exact rfl; exact rfl; exact rfl; omega; decide; intro _)
      | ((with_reducible apply J.store1); exact rfl; exact rfl; exact rfl; (repeat (first | with_reducible exact Upd.here | with_reducible apply Upd.there)); exact tab_put (k := k) (by simp) hk; (rw [tab_length]; omega))
      | ((with_reducible apply J.iterB (backward_int _ _ _)); exact rfl; exact rfl; intro _)
      | refine J.one ?_
      | refine J.loudS ?_
      | (refine J.loudQ ?_; intro _ _)
      | (refine J.loudB ?_; intro _)
      | (with_reducible apply J.list)
      | ((with_reducible apply J.gsplit); exact rfl; exact rfl)
      | ((with_reducible first | apply J.cond | apply JC.cond); exact rfl)
      | (intro h; exfalso; fail)
      | (intro h; (try simp only [decide_eq_true_eq, decide_eq_false_iff_not, beq_iff_eq, beq_eq_false_iff_ne, Bool.not_eq_true', Bool.not_eq_false', bne_iff_ne, bne_eq_false_iff_eq, ne_eq, ge_iff_le, gt_iff_lt] at h))
      | (with_reducible apply J.gave')
      | ((with_reducible apply J.kept'); rotate_left; (repeat (first | (with_reducible exact Outs.nil) | ((with_reducible apply Outs.cons); (repeat (first | with_reducible exact Out.here | with_reducible apply Out.there))))))
    all_goals
      first
      | (exact J.freshBlk (by (repeat (first | with_reducible exact Out.here | with_reducible apply Out.there))) (by rw [sp_tab]; refine tab_same fun j hj => ?_; unfold dpart; rw [if_pos (Nat.zero_le _)]) (by rw [ncs_length, sp_length]; omega) (by simp only [maxLen]; omega))
      | (trace_state; fail)
  case hstop =>
    intro D
    exact J.absurd_ (.there .here)
/-- A text's digits. -/
def dg1 (l : List UInt8) : List Nat := sp (be ((sha l).take 3)) 12
def dgs (l : List UInt8) : List Nat := dg1 l ++ sp (36 - (dg1 l).sum) 3
theorem dgs_length (l : List UInt8) : (dgs l).length = 15 := by simp [dgs, dg1, sp_length]
theorem dgs_le {l : List UInt8} {x : Nat} (h : x ∈ dgs l) : x ≤ 3 := by
  simp only [dgs, List.mem_append] at h
  rcases h with h | h <;> exact sp_le h
theorem be3 (l : List UInt8) : be ((sha l).take 3) < 16777216 := by
  have h := be_lt ((sha l).take 3)
  rw [List.length_take, sha_length] at h
  exact h
theorem digits_ (ao : Option Addr) (n cap : Nat) (l : List UInt8) (w : World) (hw : Rd w ao (bcs l) ∧ n = l.length ∧ l.length ≤ 1099511627776) : CSpec Tryz.prog 175 [.slice ao n cap] [] w (Fresh 3 1 15 (ncs (dgs l)) []) := by
  obtain ⟨hr, rfl, hl⟩ := hw
  have hb := be3 l
  refine spec_own0 Tryz.func175 rfl Tryz.ntmps175 rfl (l0 := [(0, .slice ao l.length cap)]) rfl ?_
  repeat' first
    | (refine J.qv ?_; (with_reducible apply exq); focus (first
      | ((with_reducible apply Qv.sliceTo (k := 3)); exact rfl; exact rfl; exact rfl; omega)))
    | ((with_reducible apply J.freshR (sum_ _ _ _ l)); exact rfl; exact rfl; (focus ((refine RH.and (RH.old hr) (RH.of ⟨rfl, hl⟩)))); intro _ _)
    | ((with_reducible apply J.givesR (int_ _ _ _ ((sha l).take 3))); exact rfl; exact rfl; focus ((refine RH.and (RH.take (RH.row (by (repeat (first | with_reducible exact In.here | with_reducible apply In.there))))) (RH.of ⟨?_, ?_, ?_⟩) <;> first | omega | (rw [List.length_take, sha_length]; omega))))
    | ((with_reducible apply J.freshR (spread_ (be ((sha l).take 3)) 12)); exact rfl; exact rfl; (focus ((refine RH.of ⟨?_, ?_⟩ <;> omega))); intro _ _)
    | refine J.one ?_
    | refine J.loudS ?_
    | (refine J.loudQ ?_; intro _ _)
    | (refine J.loudB ?_; intro _)
    | (with_reducible apply J.list)
    | ((with_reducible apply J.gsplit); exact rfl; exact rfl)
    | ((with_reducible first | apply J.cond | apply JC.cond); exact rfl)
    | (intro h; exfalso; fail)
    | (intro h; (try simp only [decide_eq_true_eq, decide_eq_false_iff_not, beq_iff_eq, beq_eq_false_iff_ne, Bool.not_eq_true', Bool.not_eq_false', bne_iff_ne, bne_eq_false_iff_eq, ne_eq, ge_iff_le, gt_iff_lt] at h))
    | (with_reducible apply J.gave')
    | ((with_reducible apply J.kept'); rotate_left; (repeat (first | (with_reducible exact Outs.nil) | ((with_reducible apply Outs.cons); (repeat (first | with_reducible exact Out.here | with_reducible apply Out.there))))))
  rename_i q hq
  rw [show sp (be ((sha l).take 3)) 12 = dg1 l from rfl]
  apply J.loopI (σ := Nat) (I := fun s => (s ≤ 12)) (L := fun s => [(3, .slice q.1 12 q.2), (12, .slice q.1 12 q.2), (13, .int .i64 12), (14, .int .i64 (s : Int)), (4, .int .i64 ((36 - ((dg1 l).take s).sum : Nat) : Int))]) (HH := fun s => [row (.slice q.1 12 q.2) 3 1 12 (ncs (dg1 l))]) (m := fun s => 12 - s) (s0 := 0)
  · ((try dsimp only); (exact Nat.zero_le _))
  · ((try dsimp only); repeat (first | exact sub.nil _ | (refine sub.consE rfl ?_ ?_; (first | with_reducible rfl | (fail) | rfl))))
  · ((try dsimp only); (repeat (first | (with_reducible exact Outs.nil) | ((with_reducible apply Outs.cons); (repeat (first | with_reducible exact Out.here | with_reducible apply Out.there))))))
  rintro i hI
  try dsimp only at hI ⊢
  have hs0 : ((dg1 l).take i).sum ≤ 36 := sum_take_le
  have hs1 : ((dg1 l).take (i + 1)).sum ≤ 36 := sum_take_le
  have hln : (dg1 l).length = 12 := sp_length _ _
  have hx2 : ∀ x, (dg1 l)[i]? = some x → ((dg1 l).take (i + 1)).sum = ((dg1 l).take i).sum + x := fun x h => sum_take h
  obtain ⟨x, hx⟩ : ∃ x, i < 12 → (dg1 l)[i]? = some x := by
    by_cases h : i < 12
    · exact ⟨(dg1 l)[i]'(by omega), fun _ => List.getElem?_eq_getElem _⟩
    · exact ⟨0, fun h' => absurd h' h⟩
  rcases Nat.lt_or_ge i 12 with hlt | hge
  · have hx := hx hlt
    have hx2 := hx2 x hx
    have hx3 : x ≤ 3 := sp_le (List.mem_of_getElem? hx)
    repeat' first
      | (refine J.qv ?_; (with_reducible apply exq); focus (first
        | ((with_reducible apply Qv.sub); exact rfl; exact rfl; exact wr64 (z := ((36 - ((dg1 l).take (i + 1)).sum : Nat) : Int)) (by omega) (by omega) (by omega))))
      | (refine J.qr ?_; (with_reducible apply exq); focus (first
        | ((with_reducible apply Qr.indexRd (k := i) (C := ncs (dg1 l))); exact rfl; exact rfl; exact rfl; (first | omega | (rw [ncs_length, dg1, sp_length]; omega)); exact RH.row (by (repeat (first | with_reducible exact In.here | with_reducible apply In.there))); (first | omega | (rw [ncs_length, dg1, sp_length]; omega)))
        | ((with_reducible apply Qr.rd1 (C := ncs (dg1 l))); exact rfl; exact RH.row (by (repeat (first | with_reducible exact In.here | with_reducible apply In.there))); (rw [Nat.mul_one]; exact ncs_get hx))))
      | ((with_reducible apply J.appendR (news := ncs (sp (36 - ((dg1 l).take 12).sum) 3))); exact rfl; exact rfl; (repeat (first | with_reducible exact Out.here | with_reducible apply Out.there)); exact rfl; exact RH.row (by (repeat (first | with_reducible exact In.here | with_reducible apply In.there))); (rw [ncs_length, sp_length]); exact ncs_ones _; exact rfl; exact rfl; (simp only [maxLen]; omega); omega; intro _ _)
      | ((with_reducible apply J.freshR (spread_ (36 - ((dg1 l).take 12).sum) 3)); exact rfl; exact rfl; (focus ((refine RH.of ⟨?_, ?_⟩ <;> omega))); intro _ _)
      | refine J.one ?_
      | refine J.loudS ?_
      | (refine J.loudQ ?_; intro _ _)
      | (refine J.loudB ?_; intro _)
      | (with_reducible apply J.list)
      | ((with_reducible apply J.gsplit); exact rfl; exact rfl)
      | ((with_reducible first | apply J.cond | apply JC.cond); exact rfl)
      | (intro h; exfalso; (first | (simp at h; done) | (simp at h; omega) | omega))
      | (intro h; (try simp only [decide_eq_true_eq, decide_eq_false_iff_not, beq_iff_eq, beq_eq_false_iff_ne, Bool.not_eq_true', Bool.not_eq_false', bne_iff_ne, bne_eq_false_iff_eq, ne_eq, ge_iff_le, gt_iff_lt] at h))
      | (with_reducible apply J.gave')
      | ((with_reducible apply J.kept'); rotate_left; (repeat (first | (with_reducible exact Outs.nil) | ((with_reducible apply Outs.cons); (repeat (first | with_reducible exact Out.here | with_reducible apply Out.there))))))
    all_goals
      first
      | (apply J.againI (s := i) (s' := (i + 1)); (focus (omega)); (focus ((try dsimp only); (show i + 1 ≤ 12; omega))); (focus (((try dsimp only); repeat (first | exact sub.nil _ | (refine sub.consE rfl ?_ ?_; (first | with_reducible rfl | ((focus (congr 1; omega))) | rfl)))))); ((try dsimp only); (repeat (first | (with_reducible exact Outs.nil) | ((with_reducible apply Outs.cons); (repeat (first | with_reducible exact Out.here | with_reducible apply Out.there)))))))
      | (trace_state; fail)
  · obtain rfl : i = 12 := by omega
    repeat' first
      | (refine J.qv ?_; (with_reducible apply exq); focus (first
        | ((with_reducible apply Qv.sub); exact rfl; exact rfl; exact wr64 (z := ((36 - ((dg1 l).take (i + 1)).sum : Nat) : Int)) (by omega) (by omega) (by omega))))
      | (refine J.qr ?_; (with_reducible apply exq); focus (first
        | ((with_reducible apply Qr.indexRd (k := i) (C := ncs (dg1 l))); exact rfl; exact rfl; exact rfl; (first | omega | (rw [ncs_length, dg1, sp_length]; omega)); exact RH.row (by (repeat (first | with_reducible exact In.here | with_reducible apply In.there))); (first | omega | (rw [ncs_length, dg1, sp_length]; omega)))
        | ((with_reducible apply Qr.rd1 (C := ncs (dg1 l))); exact rfl; exact RH.row (by (repeat (first | with_reducible exact In.here | with_reducible apply In.there))); (rw [Nat.mul_one]; exact ncs_get hx))))
      | ((with_reducible apply J.appendR (news := ncs (sp (36 - ((dg1 l).take 12).sum) 3))); exact rfl; exact rfl; (repeat (first | with_reducible exact Out.here | with_reducible apply Out.there)); exact rfl; exact RH.row (by (repeat (first | with_reducible exact In.here | with_reducible apply In.there))); (rw [ncs_length, sp_length]); exact ncs_ones _; exact rfl; exact rfl; (simp only [maxLen]; omega); omega; intro _ _)
      | ((with_reducible apply J.freshR (spread_ (36 - ((dg1 l).take 12).sum) 3)); exact rfl; exact rfl; (focus ((refine RH.of ⟨?_, ?_⟩ <;> omega))); intro _ _)
      | refine J.one ?_
      | refine J.loudS ?_
      | (refine J.loudQ ?_; intro _ _)
      | (refine J.loudB ?_; intro _)
      | (with_reducible apply J.list)
      | ((with_reducible apply J.gsplit); exact rfl; exact rfl)
      | ((with_reducible first | apply J.cond | apply JC.cond); exact rfl)
      | (intro h; exfalso; (first | (simp at h; done) | (simp at h; omega) | omega))
      | (intro h; (try simp only [decide_eq_true_eq, decide_eq_false_iff_not, beq_iff_eq, beq_eq_false_iff_ne, Bool.not_eq_true', Bool.not_eq_false', bne_iff_ne, bne_eq_false_iff_eq, ne_eq, ge_iff_le, gt_iff_lt] at h))
      | (with_reducible apply J.gave')
      | ((with_reducible apply J.kept'); rotate_left; (repeat (first | (with_reducible exact Outs.nil) | ((with_reducible apply Outs.cons); (repeat (first | with_reducible exact Out.here | with_reducible apply Out.there))))))
    all_goals
      first
      | (have e : (dg1 l).take 12 = dg1 l := List.take_of_length_le (by omega)
         rw [e]
         ((with_reducible apply J.freshRow); (repeat (first | with_reducible exact Out.here | with_reducible apply Out.there)); exact rfl; exact rfl; exact (ncs_append _ _).symm))
      | (trace_state; fail)
/-- So many steps. -/
def wk (s : List UInt8) : Nat → List UInt8
  | 0 => s
  | k + 1 => short (wk s k)
theorem wk_le {s : List UInt8} {m : Nat} (h : s.length ≤ m) (h8 : 8 ≤ m) : ∀ k, (wk s k).length ≤ m
  | 0 => h
  | k + 1 => by rw [wk, short_length]; exact h8
theorem clamp3 {k : Nat} (h : k ≤ 3) : imin (imax (k : Int) 0) 3 = (k : Int) := by unfold imin imax; split <;> split <;> omega
theorem walk_ (s : List UInt8) (k : Nat) (w : World) (hw : k ≤ 3 ∧ s.length ≤ 1099511627776) : CSpec Tryz.prog 179 [str s, .int .i64 (k : Int)] [] w (Gives (str (wk s k))) := by
  obtain ⟨h3, hl⟩ := hw
  refine spec_own0 Tryz.func179 rfl Tryz.ntmps179 rfl (l0 := [(0, str s), (1, .int .i64 (k : Int))]) rfl ?_
  repeat' first
    | ((with_reducible apply J.givesR (short_ _ _ _ [wk s i])); exact rfl; exact rfl; focus (exact RH.and (RH.sblk (by (repeat (first | with_reducible exact In.here | with_reducible apply In.there))) (RH.lcons (RH.bbat (by (repeat (first | with_reducible exact In.here | with_reducible apply In.there)))) RH.lnil)) (RH.of ⟨rfl, by simp; omega, by simp⟩)))
    | refine J.one ?_
    | refine J.loudS ?_
    | (refine J.loudQ ?_; intro _ _)
    | (refine J.loudB ?_; intro _)
    | (with_reducible apply J.list)
    | ((with_reducible apply J.gsplit); exact rfl; exact rfl)
    | ((with_reducible first | apply J.cond | apply JC.cond); exact rfl)
    | (intro h; exfalso; (first | (simp at h; done) | (simp at h; omega) | omega))
    | (intro h; (try simp only [decide_eq_true_eq, decide_eq_false_iff_not, beq_iff_eq, beq_eq_false_iff_ne, Bool.not_eq_true', Bool.not_eq_false', bne_iff_ne, bne_eq_false_iff_eq, ne_eq, ge_iff_le, gt_iff_lt] at h))
    | (with_reducible apply J.gave')
    | ((with_reducible apply J.kept'); rotate_left; (repeat (first | (with_reducible exact Outs.nil) | ((with_reducible apply Outs.cons); (repeat (first | with_reducible exact Out.here | with_reducible apply Out.there))))))
  rw [clamp3 h3]
  apply J.loopI (σ := Nat) (I := fun q => (q ≤ k)) (L := fun q => [(0, str (wk s q)), (7, .int .i64 (k : Int)), (8, .int .i64 (q : Int))]) (HH := fun q => []) (m := fun q => k - q) (s0 := 0)
  · ((try dsimp only); (exact Nat.zero_le _))
  · ((try dsimp only); repeat (first | exact sub.nil _ | (refine sub.consE rfl ?_ ?_; (first | with_reducible rfl | (fail) | rfl))))
  · ((try dsimp only); (repeat (first | (with_reducible exact Outs.nil) | ((with_reducible apply Outs.cons); (repeat (first | with_reducible exact Out.here | with_reducible apply Out.there))))))
  rintro i hI
  try dsimp only at hI ⊢
  have hwl := wk_le hl (by omega) i
  repeat' first
    | ((with_reducible apply J.givesR (short_ _ _ _ [wk s i])); exact rfl; exact rfl; focus (exact RH.and (RH.sblk (by (repeat (first | with_reducible exact In.here | with_reducible apply In.there))) (RH.lcons (RH.bbat (by (repeat (first | with_reducible exact In.here | with_reducible apply In.there)))) RH.lnil)) (RH.of ⟨rfl, by simp; omega, by simp⟩)))
    | refine J.one ?_
    | refine J.loudS ?_
    | (refine J.loudQ ?_; intro _ _)
    | (refine J.loudB ?_; intro _)
    | (with_reducible apply J.list)
    | ((with_reducible apply J.gsplit); exact rfl; exact rfl)
    | ((with_reducible first | apply J.cond | apply JC.cond); exact rfl)
    | (intro h; exfalso; (first | (simp at h; done) | (simp at h; omega) | omega))
    | (intro h; (try simp only [decide_eq_true_eq, decide_eq_false_iff_not, beq_iff_eq, beq_eq_false_iff_ne, Bool.not_eq_true', Bool.not_eq_false', bne_iff_ne, bne_eq_false_iff_eq, ne_eq, ge_iff_le, gt_iff_lt] at h))
    | (with_reducible apply J.gave')
    | ((with_reducible apply J.kept'); rotate_left; (repeat (first | (with_reducible exact Outs.nil) | ((with_reducible apply Outs.cons); (repeat (first | with_reducible exact Out.here | with_reducible apply Out.there))))))
  all_goals
    first
    | (have e0 : i = k := by omega
       subst e0
       rfl)
    | (apply J.againI (s := i) (s' := (i + 1)); (focus (omega)); (focus ((try dsimp only); omega)); (focus (((try dsimp only); repeat (first | exact sub.nil _ | (refine sub.consE rfl ?_ ?_; (first | with_reducible rfl | ((focus (first | (congr 1; omega) | (simp only [List.flatten_cons, List.flatten_nil, List.append_nil]; rfl)))) | rfl)))))); ((try dsimp only); (repeat (first | (with_reducible exact Outs.nil) | ((with_reducible apply Outs.cons); (repeat (first | with_reducible exact Out.here | with_reducible apply Out.there)))))))
    | (trace_state; fail)
section
variable {c : Cx} {l : TL} {H : List Asrt}
theorem J.batPack {v : Value} {bs : List UInt8} {V : List Value} {L : List (List UInt8)} {H1 H2 : List Asrt} {G : Act → World → Prop} (h1 : Out (bAt v bs) H H1) (h2 : Out (sepA (bsA V L)) H1 H2) (hl : V.length = L.length)
    (K : J c l (sepA (bsA (V ++ [v]) (L ++ [bs])) :: H2) G) : J c l H G := J.mk fun a w s => by
  have s1 := (s.2.2.perm h1.perm).perm (h2.perm.cons _)
  obtain ⟨fp, ⟨f, g, rfl, ha, f', g', rfl, hb, hg⟩, hnd, hi, hf⟩ := s1
  refine K.out a w ⟨s.1, s.2.1, (f' ++ f) ++ g', ⟨f' ++ f, g', rfl, ?_, hg⟩, ?_, ?_, hf⟩
  · have key : ∀ {V : List Value} {L : List (List UInt8)} {f'}, V.length = L.length → Holds (hp w) (bsA V L) f' → Holds (hp w) (bsA (V ++ [v]) (L ++ [bs])) (f' ++ f) := by
      intro V
      induction V with
      | nil =>
        intro L f' hl hh
        cases L with
        | nil =>
          obtain rfl : f' = [] := hh
          exact ⟨f, [], by simp, ha, rfl⟩
        | cons _ _ => simp at hl
      | cons u V ih =>
        intro L f' hl hh
        cases L with
        | nil => simp at hl
        | cons m L =>
          obtain ⟨f1, f2, rfl, h1, h2⟩ := hh
          exact ⟨f1, f2 ++ f, by simp, h1, ih (by simpa using hl) h2⟩
    exact key hl hb
  · have p : (f ++ (f' ++ g')).Perm ((f' ++ f) ++ g') := by
      rw [← List.append_assoc]
      exact List.perm_append_comm.append_right g'
    exact p.nodup_iff.1 hnd
  · intro i hi'
    refine hi i ?_
    simp only [List.mem_append] at hi' ⊢
    rcases hi' with (h | h) | h
    · exact .inr (.inl h)
    · exact .inl h
    · exact .inr (.inr h)
end
/-- Texts as cells. -/
def scs (l : List (List UInt8)) : List Value := l.map str
theorem scs_length (l : List (List UInt8)) : (scs l).length = l.length := by simp [scs]
theorem scs_append (l m : List (List UInt8)) : scs (l ++ m) = scs l ++ scs m := by simp [scs]
theorem scs_get {l : List (List UInt8)} {i : Nat} {x : List UInt8} (h : l[i]? = some x) : (scs l)[i]? = some (str x) := by simp [scs, h]
theorem scs_ones (l : List (List UInt8)) : (scs l).all (·.oneCell') = true := by simp [scs, Value.oneCell']
/-- Each walked the rest. -/
def closedL (P : List (List UInt8)) (F : List Nat) : List (List UInt8) := List.zipWith (fun p d => wk p (3 - d)) P F
theorem closedL_get {P : List (List UInt8)} {F : List Nat} {i d : Nat} {p : List UInt8} (h1 : P[i]? = some p) (h2 : F[i]? = some d) : (closedL P F)[i]? = some (wk p (3 - d)) := by
  unfold closedL
  rw [List.getElem?_zipWith, h1, h2]
theorem closedL_length {P : List (List UInt8)} {F : List Nat} (h : F.length = P.length) : (closedL P F).length = P.length := by simp [closedL, h]
theorem take_snoc {α : Type} {L : List α} {i : Nat} {x : α} (h : L[i]? = some x) : L.take (i + 1) = L.take i ++ [x] := by
  rw [List.take_add_one, h]
  rfl
theorem flat_max {m : Nat} : ∀ {L : List (List UInt8)}, (∀ x, x ∈ L → x.length ≤ m) → L.flatten.length ≤ m * L.length
  | [], _ => by simp
  | a :: L, h => by
    have h1 := flat_max (L := L) fun x hx => h x (by simp [hx])
    have h2 := h a (by simp)
    simp only [List.flatten_cons, List.length_append, List.length_cons, Nat.mul_add, Nat.mul_one]
    omega
theorem closedL_le {P : List (List UInt8)} {F : List Nat} (h : ∀ p, p ∈ P → p.length ≤ 8) : ∀ x, x ∈ closedL P F → x.length ≤ 8 := by
  intro x hx
  unfold closedL at hx
  obtain ⟨i, hi, e⟩ := List.getElem_of_mem hx
  rw [List.getElem_zipWith] at e
  subst e
  exact wk_le (h _ (List.getElem_mem _)) (Nat.le_refl _) _
theorem closed_ (ao : Option Addr) (n cap : Nat) (P : List (List UInt8)) (aof : Option Addr) (m capf : Nat) (F : List Nat) (w : World) (hw : (Rd w ao (scs P) ∧ Rd w aof (ncs F)) ∧ n = P.length ∧ m = F.length ∧ F.length = P.length ∧ (∀ x, x ∈ F → x ≤ 3) ∧ (∀ p, p ∈ P → p.length ≤ 8) ∧ P.length ≤ 1000) : CSpec Tryz.prog 174 [.slice ao n cap, .slice aof m capf] [] w (Gives (str (short (closedL P F).flatten))) := by
  obtain ⟨⟨hP, hF⟩, rfl, rfl, hl, h3, h8, hm⟩ := hw
  have hcl := closedL_length hl
  have hfm := flat_max (closedL_le (F := F) h8)
  refine spec_own0 Tryz.func174 rfl Tryz.ntmps174 rfl (l0 := [(0, .slice ao P.length cap), (1, .slice aof F.length capf)]) rfl ?_
  repeat' first
    | refine J.one ?_
    | refine J.loudS ?_
    | (refine J.loudQ ?_; intro _ _)
    | (refine J.loudB ?_; intro _)
    | (with_reducible apply J.list)
    | ((with_reducible apply J.gsplit); exact rfl; exact rfl)
    | ((with_reducible first | apply J.cond | apply JC.cond); exact rfl)
    | (intro h; exfalso; fail)
    | (intro h; (try simp only [decide_eq_true_eq, decide_eq_false_iff_not, beq_iff_eq, beq_eq_false_iff_ne, Bool.not_eq_true', Bool.not_eq_false', bne_iff_ne, bne_eq_false_iff_eq, ne_eq, ge_iff_le, gt_iff_lt] at h))
    | (with_reducible apply J.gave')
    | ((with_reducible apply J.kept'); rotate_left; (repeat (first | (with_reducible exact Outs.nil) | ((with_reducible apply Outs.cons); (repeat (first | with_reducible exact Out.here | with_reducible apply Out.there))))))
  refine J.nilRow 93 1 ?_
  refine J.packNil ?_
  rw [show ([] : List (List UInt8)) = (closedL P F).take 0 from rfl]
  apply J.loopI (σ := (Nat × (Option Addr × Nat) × List Value)) (I := fun s => (s.1 ≤ P.length ∧ s.2.2.length = s.1)) (L := fun s => [(1, .slice aof F.length capf), (8, .slice ao P.length cap), (9, .int .i64 (P.length : Int)), (10, .int .i64 (s.1 : Int)), (5, .slice s.2.1.1 s.1 s.2.1.2)]) (HH := fun s => [row (.slice s.2.1.1 s.1 s.2.1.2) 93 1 s.1 s.2.2, sepA (bsA s.2.2 ((closedL P F).take s.1))]) (m := fun s => P.length - s.1) (s0 := (0, (none, 0), []))
  · ((try dsimp only); (exact ⟨Nat.zero_le _, rfl⟩))
  · ((try dsimp only); repeat (first | exact sub.nil _ | (refine sub.consE rfl ?_ ?_; (first | with_reducible rfl | (fail) | rfl))))
  · ((try dsimp only); (repeat (first | (with_reducible exact Outs.nil) | ((with_reducible apply Outs.cons); (repeat (first | with_reducible exact Out.here | with_reducible apply Out.there))))))
  rintro ⟨i, q, V⟩ ⟨hI, hV⟩
  try dsimp only at *
  rcases Nat.lt_or_ge i P.length with hlt | hge
  · obtain ⟨p, hp⟩ : ∃ p, P[i]? = some p := ⟨_, List.getElem?_eq_getElem hlt⟩
    obtain ⟨d, hd⟩ : ∃ d, F[i]? = some d := ⟨_, List.getElem?_eq_getElem (by omega)⟩
    have hd3 := h3 d (List.mem_of_getElem? hd)
    have hp8 := h8 p (List.mem_of_getElem? hp)
    have hts := take_snoc (closedL_get hp hd)
    have htl : ((closedL P F).take i).length = i := by rw [List.length_take]; omega
    repeat' first
      | (refine J.qv ?_; (with_reducible apply exq); focus (first
        | ((with_reducible apply Qv.sub); exact rfl; exact rfl; exact wr64 (z := ((3 - d : Nat) : Int)) (by omega) (by omega) (by omega))))
      | (refine J.qr ?_; (with_reducible apply exq); focus (first
        | ((with_reducible apply Qr.indexRd (k := i) (C := scs P)); exact rfl; exact rfl; exact rfl; (first | omega | (rw [scs_length]; omega)); exact RH.old hP; (first | omega | (rw [scs_length]; omega)))
        | ((with_reducible apply Qr.rd1 (C := scs P)); exact rfl; exact RH.old hP; (rw [Nat.mul_one]; exact scs_get hp))
        | ((with_reducible apply Qr.indexRd (k := i) (C := ncs F)); exact rfl; exact rfl; exact rfl; (first | omega | (rw [ncs_length]; omega)); exact RH.old hF; (first | omega | (rw [ncs_length]; omega)))
        | ((with_reducible apply Qr.rd1 (C := ncs F)); exact rfl; exact RH.old hF; (rw [Nat.mul_one]; exact ncs_get hd))))
      | ((with_reducible apply J.appendR (news := [_])); exact rfl; exact rfl; (repeat (first | with_reducible exact Out.here | with_reducible apply Out.there)); exact rfl; exact RH.blk0 (by (repeat (first | with_reducible exact In.here | with_reducible apply In.there))); exact rfl; exact rfl; exact rfl; exact rfl; (simp only [maxLen]; omega); omega; intro _ _)
      | ((with_reducible apply J.givesR (walk_ p (3 - d))); exact rfl; exact rfl; focus (refine RH.of ⟨?_, ?_⟩ <;> omega))
      | refine J.one ?_
      | refine J.loudS ?_
      | (refine J.loudQ ?_; intro _ _)
      | (refine J.loudB ?_; intro _)
      | (with_reducible apply J.list)
      | ((with_reducible apply J.gsplit); exact rfl; exact rfl)
      | ((with_reducible first | apply J.cond | apply JC.cond); exact rfl)
      | (intro h; exfalso; (first | (simp at h; done) | (simp at h; omega) | omega))
      | (intro h; (try simp only [decide_eq_true_eq, decide_eq_false_iff_not, beq_iff_eq, beq_eq_false_iff_ne, Bool.not_eq_true', Bool.not_eq_false', bne_iff_ne, bne_eq_false_iff_eq, ne_eq, ge_iff_le, gt_iff_lt] at h))
      | (with_reducible apply J.gave')
      | ((with_reducible apply J.kept'); rotate_left; (repeat (first | (with_reducible exact Outs.nil) | ((with_reducible apply Outs.cons); (repeat (first | with_reducible exact Out.here | with_reducible apply Out.there))))))
    all_goals
      (rename_i q1 _ b q2 _
       apply J.batPack (V := V) (L := (closedL P F).take i)
       · (repeat (first | with_reducible exact Out.here | with_reducible apply Out.there))
       · (repeat (first | with_reducible exact Out.here | with_reducible apply Out.there))
       · omega
       rw [← hts]
       (apply J.againI (s := (i, q, V)) (s' := (i + 1, q2, V ++ [.slice (some ⟨q1.1, 0, none⟩) (wk p (3 - d)).length q1.2])); (focus (omega)); (focus ((try dsimp only); (refine ⟨?_, ?_⟩ <;> first | omega | (simp; omega) | (show i + 1 ≤ P.length; omega)))); (focus (((try dsimp only); repeat (first | exact sub.nil _ | (refine sub.consE rfl ?_ ?_; (first | with_reducible rfl | ((focus (congr 1; omega))) | rfl)))))); ((try dsimp only); (repeat (first | (with_reducible exact Outs.nil) | ((with_reducible apply Outs.cons); (repeat (first | with_reducible exact Out.here | with_reducible apply Out.there))))))))
  · obtain rfl : i = P.length := by omega
    have htk : (closedL P F).take P.length = closedL P F := List.take_of_length_le (by omega)
    rw [htk]
    repeat' first
      | ((with_reducible apply J.givesR (short_ _ _ _ (closedL P F))); exact rfl; exact rfl; (focus (refine RH.and (RH.srow (by (repeat (first | with_reducible exact In.here | with_reducible apply In.there))) (RH.lbs (by (repeat (first | with_reducible exact In.here | with_reducible apply In.there))) ?_)) (RH.of ⟨?_, ?_, ?_⟩) <;> omega)))
      | refine J.one ?_
      | refine J.loudS ?_
      | (refine J.loudQ ?_; intro _ _)
      | (refine J.loudB ?_; intro _)
      | (with_reducible apply J.list)
      | ((with_reducible apply J.gsplit); exact rfl; exact rfl)
      | ((with_reducible first | apply J.cond | apply JC.cond); exact rfl)
      | (intro h; exfalso; (first | (simp at h; done) | (simp at h; omega) | omega))
      | (intro h; (try simp only [decide_eq_true_eq, decide_eq_false_iff_not, beq_iff_eq, beq_eq_false_iff_ne, Bool.not_eq_true', Bool.not_eq_false', bne_iff_ne, bne_eq_false_iff_eq, ne_eq, ge_iff_le, gt_iff_lt] at h))
      | (with_reducible apply J.gave')
      | ((with_reducible apply J.kept'); rotate_left; (repeat (first | (with_reducible exact Outs.nil) | ((with_reducible apply Outs.cons); (repeat (first | with_reducible exact Out.here | with_reducible apply Out.there))))))
    all_goals
      first
      | rfl
      | (trace_state; fail)
/-- Which is the first one; -1: none. -/
def findI (p : Nat → Bool) (N : Nat) : Int := match (List.range N).find? p with | some i => (i : Int) | none => -1
theorem findI_at {p : Nat → Bool} {N i : Nat} (hi : i < N) (hp : p i = true) (h0 : ∀ j, j < i → p j = false) : findI p N = (i : Int) := by
  unfold findI
  have e : (List.range N).find? p = some i := by
    rw [List.find?_range_eq_some]
    exact ⟨hp, by simp [hi], fun j hj => by simp [h0 j hj]⟩
  rw [e]
theorem findI_none {p : Nat → Bool} {N : Nat} (h0 : ∀ j, j < N → p j = false) : findI p N = -1 := by
  unfold findI
  have e : (List.range N).find? p = none := by
    rw [List.find?_eq_none]
    intro j hj
    rw [h0 j (by simpa using hj)]
    decide
  rw [e]
theorem findI_lt {p : Nat → Bool} {N : Nat} : findI p N < N := by
  unfold findI
  split
  · rename_i i h
    have := List.mem_of_find?_eq_some h
    simp at this
    omega
  · omega
theorem findI_or {p : Nat → Bool} {N : Nat} : (findI p N = -1 ∧ ∀ j, j < N → p j = false) ∨ ∃ i, i < N ∧ findI p N = (i : Int) ∧ p i = true ∧ ∀ j, j < i → p j = false := by
  by_cases h : ∀ j, j < N → p j = false
  · exact .inl ⟨findI_none h, h⟩
  · right
    have h1 : ∃ j, j < N ∧ p j = true := by
      apply Classical.byContradiction
      intro hn
      apply h
      intro j hj
      cases hb : p j with
      | false => rfl
      | true => exact absurd ⟨j, hj, hb⟩ hn
    have key : ∀ m, (∃ j, j < m ∧ p j = true) → ∃ i, i < m ∧ p i = true ∧ ∀ j, j < i → p j = false := by
      intro m
      induction m with
      | zero => rintro ⟨j, hj, _⟩; omega
      | succ m ih =>
        rintro ⟨j, hj, hpj⟩
        by_cases hm : ∃ j, j < m ∧ p j = true
        · obtain ⟨i, h1, h2, h3⟩ := ih hm
          exact ⟨i, by omega, h2, h3⟩
        · refine ⟨m, by omega, ?_, ?_⟩
          · have : j = m := by
              apply Classical.byContradiction
              intro hne
              exact hm ⟨j, by omega, hpj⟩
            exact this ▸ hpj
          · intro k hk
            cases hb : p k with
            | false => rfl
            | true => exact absurd ⟨k, hk, hb⟩ hm
    obtain ⟨i, h2, h3, h4⟩ := key N h1
    exact ⟨i, h2, findI_at h2 h3 h4, h3, h4⟩
theorem idx_string (ao : Option Addr) (n cap : Nat) (C : List Value) (N fb : Nat) (cs : List Value) (x : Nat → Value) (p : Nat → Bool) [Eng.Enters Tryz.prog fb] (w : World) (hw : Rd w ao C ∧ n = N ∧ C.length = N ∧ N ≤ maxLen ∧ (∀ i, i < N → C[i]? = some (x i)) ∧ ∀ i, i < N → ∀ w2, Fr w [] w2 → CSpec Tryz.prog fb (x i :: cs) [] w2 (Gives (.bool (p i)))) : CSpec Tryz.prog 178 [.slice ao n cap, fnv fb cs] [] w (Gives (.int .i64 (findI p N))) := by
  obtain ⟨hr, rfl, hCl, hm, hC, hp⟩ := hw
  refine spec_own0 Tryz.func178 rfl Tryz.ntmps178 rfl (l0 := [(0, .slice ao n cap), (1, fnv fb cs)]) rfl ?_
  repeat' first
    | refine J.one ?_
    | refine J.loudS ?_
    | (refine J.loudQ ?_; intro _ _)
    | (refine J.loudB ?_; intro _)
    | (with_reducible apply J.list)
    | ((with_reducible apply J.gsplit); exact rfl; exact rfl)
    | ((with_reducible first | apply J.cond | apply JC.cond); exact rfl)
    | (intro h; exfalso; fail)
    | (intro h; (try simp only [decide_eq_true_eq, decide_eq_false_iff_not, beq_iff_eq, beq_eq_false_iff_ne, Bool.not_eq_true', Bool.not_eq_false', bne_iff_ne, bne_eq_false_iff_eq, ne_eq, ge_iff_le, gt_iff_lt] at h))
    | (with_reducible apply J.gave')
    | ((with_reducible apply J.kept'); rotate_left; (repeat (first | (with_reducible exact Outs.nil) | ((with_reducible apply Outs.cons); (repeat (first | with_reducible exact Out.here | with_reducible apply Out.there))))))
  apply J.loopI (σ := Nat) (I := fun q => (q ≤ n ∧ ∀ j, j < q → p j = false)) (L := fun q => [(0, .slice ao n cap), (1, fnv fb cs), (6, .slice ao n cap), (7, .int .i64 (n : Int)), (8, .int .i64 (q : Int))]) (HH := fun q => []) (m := fun q => n - q) (s0 := 0)
  · ((try dsimp only); (exact ⟨Nat.zero_le _, fun j hj => absurd hj (Nat.not_lt_zero _)⟩))
  · ((try dsimp only); repeat (first | exact sub.nil _ | (refine sub.consE rfl ?_ ?_; (first | with_reducible rfl | (fail) | rfl))))
  · ((try dsimp only); (repeat (first | (with_reducible exact Outs.nil) | ((with_reducible apply Outs.cons); (repeat (first | with_reducible exact Out.here | with_reducible apply Out.there))))))
  rintro i ⟨hI, hno⟩
  try dsimp only at *
  have hm2 := hm
  simp only [maxLen] at hm2
  rcases Nat.lt_or_ge i n with hlt | hge
  · skip
    repeat' first
      | (refine J.qr ?_; (with_reducible apply exq); focus (first
        | ((with_reducible apply Qr.indexRd (k := i) (C := C)); exact rfl; exact rfl; exact rfl; omega; exact RH.old hr; omega)
        | ((with_reducible apply Qr.rd1 (C := C)); exact rfl; exact RH.old hr; (rw [Nat.mul_one]; exact hC i hlt))))
      | ((with_reducible apply J.callV (f := fb) (cs := cs)); exact rfl; exact rfl; exact rfl; exact fun w2 s2 => hp i hlt w2 s2.fr)
      | refine J.one ?_
      | refine J.loudS ?_
      | (refine J.loudQ ?_; intro _ _)
      | (refine J.loudB ?_; intro _)
      | (with_reducible apply J.list)
      | ((with_reducible apply J.gsplit); exact rfl; exact rfl)
      | ((with_reducible first | apply J.cond | apply JC.cond); exact rfl)
      | (intro h; exfalso; (first | (simp at h; done) | (simp at h; omega) | omega))
      | (intro h; (try simp only [decide_eq_true_eq, decide_eq_false_iff_not, beq_iff_eq, beq_eq_false_iff_ne, Bool.not_eq_true', Bool.not_eq_false', bne_iff_ne, bne_eq_false_iff_eq, ne_eq, ge_iff_le, gt_iff_lt] at h))
      | (with_reducible apply J.gave')
      | ((with_reducible apply J.kept'); rotate_left; (repeat (first | (with_reducible exact Outs.nil) | ((with_reducible apply Outs.cons); (repeat (first | with_reducible exact Out.here | with_reducible apply Out.there))))))
    all_goals
      first
      | (simp only [retv]; rw [findI_at hlt (by assumption) hno]; done)
      | (apply J.againI (s := i) (s' := (i + 1)); (focus (omega)); (focus ((try dsimp only); exact ⟨by omega, fun j hj => (Nat.lt_or_ge j i).elim (hno j) fun h9 => (show j = i from Nat.le_antisymm (Nat.le_of_lt_succ hj) h9).symm ▸ h⟩)); (focus (((try dsimp only); repeat (first | exact sub.nil _ | (refine sub.consE rfl ?_ ?_; (first | with_reducible rfl | ((focus (congr 1; omega))) | rfl)))))); ((try dsimp only); (repeat (first | (with_reducible exact Outs.nil) | ((with_reducible apply Outs.cons); (repeat (first | with_reducible exact Out.here | with_reducible apply Out.there)))))))
      | (trace_state; fail)
  · obtain rfl : i = n := by omega
    repeat' first
      | (refine J.qr ?_; (with_reducible apply exq); focus (first
        | ((with_reducible apply Qr.indexRd (k := i) (C := C)); exact rfl; exact rfl; exact rfl; omega; exact RH.old hr; omega)
        | ((with_reducible apply Qr.rd1 (C := C)); exact rfl; exact RH.old hr; (rw [Nat.mul_one]; exact hC i hlt))))
      | ((with_reducible apply J.callV (f := fb) (cs := cs)); exact rfl; exact rfl; exact rfl; exact fun w2 s2 => hp i hlt w2 s2.fr)
      | refine J.one ?_
      | refine J.loudS ?_
      | (refine J.loudQ ?_; intro _ _)
      | (refine J.loudB ?_; intro _)
      | (with_reducible apply J.list)
      | ((with_reducible apply J.gsplit); exact rfl; exact rfl)
      | ((with_reducible first | apply J.cond | apply JC.cond); exact rfl)
      | (intro h; exfalso; (first | (simp at h; done) | (simp at h; omega) | omega))
      | (intro h; (try simp only [decide_eq_true_eq, decide_eq_false_iff_not, beq_iff_eq, beq_eq_false_iff_ne, Bool.not_eq_true', Bool.not_eq_false', bne_iff_ne, bne_eq_false_iff_eq, ne_eq, ge_iff_le, gt_iff_lt] at h))
      | (with_reducible apply J.gave')
      | ((with_reducible apply J.kept'); rotate_left; (repeat (first | (with_reducible exact Outs.nil) | ((with_reducible apply Outs.cons); (repeat (first | with_reducible exact Out.here | with_reducible apply Out.there))))))
    all_goals
      first
      | (simp only [retv]; rw [findI_none hno]; done)
      | (trace_state; fail)
end Go.Proofs.YtljbedladifgmaaGreat.Ots
