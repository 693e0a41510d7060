/-
  Signatures that may be made once: what is computed. No conditions.
-/
import Derived.Test.YtfcaeifpclpnoaaQDeal
import Derived.Test.YtfcaeifpclpnoaaQFv
namespace Go.Proofs.Ytfcaeifpclpnoaa.Ots
open Go Go.RowKit Eng
set_option linter.unusedVariables false
set_option maxRecDepth 100000
set_option linter.unusedSimpArgs false
open Sha Iter Hash Bytes
set_option maxHeartbeats 1000000
open Go.Proofs.Ytfcaeifpclpnoaa.Hsum
/-- Whole numbers as cells. -/
def ncs (l : List Nat) : List Value := l.map fun (x : Nat) => .int .i64 (x : Int)
theorem ncs_length (l : List Nat) : (ncs l).length = l.length := by simp [ncs]
theorem ncs_append (l m : List Nat) : ncs (l ++ m) = ncs l ++ ncs m := by simp [ncs]
theorem ncs_get {l : List Nat} {i x : Nat} (h : l[i]? = some x) : (ncs l)[i]? = some (.int .i64 (x : Int)) := by simp [ncs, h]
theorem ncs_ones (l : List Nat) : (ncs l).all (·.oneCell') = true := by simp [ncs, Value.oneCell']
/-- A number's digits, the highest first. -/
def sp (n : Nat) : Nat → List Nat
  | 0 => []
  | k + 1 => sp (n / 4) k ++ [n % 4]
theorem sp_length : ∀ (k n : Nat), (sp n k).length = k
  | 0, _ => rfl
  | k + 1, n => by simp [sp, sp_length k]
theorem sp_get : ∀ {k n j : Nat}, j < k → (sp n k)[j]? = some (n / 4 ^ (k - 1 - j) % 4)
  | 0, _, j, h => by omega
  | k + 1, n, j, h => by
    rw [sp]
    rcases Nat.lt_or_ge j k with h1 | h1
    · rw [List.getElem?_append_left (by rw [sp_length]; exact h1), sp_get h1, Nat.div_div_eq_div_mul]
      congr 3
      rw [show k + 1 - 1 - j = (k - 1 - j) + 1 by omega, Nat.pow_succ, Nat.mul_comm]
    · have e : j = k := by omega
      subst e
      rw [List.getElem?_append_right (by rw [sp_length]; exact Nat.le_refl _), sp_length]
      simp
theorem sp_le {n k x : Nat} (h : x ∈ sp n k) : x ≤ 3 := by
  obtain ⟨j, hj, e⟩ := List.getElem_of_mem h
  have h1 := List.getElem?_eq_getElem hj
  rw [sp_length] at hj
  rw [sp_get hj, e] at h1
  cases h1
  omega
theorem sp_tab (n k : Nat) : ncs (sp n k) = tab (fun j => .int .i64 ((n / 4 ^ (k - 1 - j) % 4 : Nat) : Int)) k := by
  refine tab_eq (by rw [ncs_length, sp_length]) fun j hj => ?_
  rw [ncs_get (sp_get hj)]
theorem sum_take {l : List Nat} {i x : Nat} (h : l[i]? = some x) : (l.take (i + 1)).sum = (l.take i).sum + x := by
  rw [List.take_add_one, h]
  simp
theorem sum_le {l : List Nat} (h : ∀ x, x ∈ l → x ≤ 3) : l.sum ≤ 3 * l.length := by
  induction l with
  | nil => simp
  | cons a l ih =>
    have h1 := ih fun x hx => h x (by simp [hx])
    have h2 := h a (by simp)
    simp
    omega
theorem sum_take_le {n k i : Nat} : ((sp n k).take i).sum ≤ 3 * k := by
  have h := sum_le (l := (sp n k).take i) fun x hx => sp_le (List.mem_of_mem_take hx)
  have h2 : ((sp n k).take i).length ≤ k := by rw [List.length_take, sp_length]; omega
  omega
/-- The digits that are there with k rounds to go. -/
def dpart (n size k : Nat) (j : Nat) : Value := if k ≤ j then .int .i64 ((n / 4 ^ (size - 1 - j) % 4 : Nat) : Int) else .int .i64 0
theorem dpart_put {n size k : Nat} (hk : k < size) : tab (fun j => if j = k then Value.int .i64 ((n / 4 ^ (size - (k + 1)) % 4 : Nat) : Int) else dpart n size (k + 1) j) size = tab (dpart n size k) size := by
  refine tab_same fun j hj => ?_
  unfold dpart
  by_cases h : j = k
  · subst h
    rw [if_pos rfl, if_pos (Nat.le_refl _)]
    congr 5
    omega
  · rw [if_neg h]
    by_cases h2 : k ≤ j
    · rw [if_pos (by omega), if_pos h2]
    · rw [if_neg (by omega), if_neg h2]
theorem and64_low {m : Nat} (h1 : m < 9223372036854775808) (k : Nat) (hk : k ≤ 32) : andI .i64 (m : Int) ((2 ^ k - 1 : Nat) : Int) = ((m % 2 ^ k : Nat) : Int) := by
  have hp : 2 ^ k ≤ 4294967296 := Nat.le_trans (Nat.pow_le_pow_right (n := 2) (by omega) hk) (by omega)
  have hp0 := Nat.two_pow_pos k
  have e1 : (BitVec.ofInt IntKind.i64.bits (m : Int) &&& BitVec.ofInt IntKind.i64.bits ((2 ^ k - 1 : Nat) : Int)).toNat = m % 2 ^ k := by
    rw [BitVec.toNat_and, BitVec.ofInt_natCast, BitVec.ofInt_natCast, BitVec.toNat_ofNat, BitVec.toNat_ofNat]
    have b : IntKind.i64.bits = 64 := rfl
    rw [b, Nat.mod_eq_of_lt (by omega), Nat.mod_eq_of_lt (a := 2 ^ k - 1) (by omega), Nat.and_two_pow_sub_one_eq_mod]
  unfold andI
  rw [e1]
  have h2 := Nat.mod_lt m hp0
  exact wr64 (by omega) (by omega) rfl
theorem and3 {m : Nat} (h : m < 9223372036854775808) : andI .i64 (m : Int) 3 = ((m % 4 : Nat) : Int) := and64_low h 2 (by decide)
theorem shr2 {n size k : Nat} (hk : k < size) : ((n / 4 ^ (size - (k + 1)) : Nat) : Int).fdiv (2 ^ 2) = ((n / 4 ^ (size - k) : Nat) : Int) := by
  rw [Int.fdiv_eq_ediv_of_nonneg _ (by decide)]
  have e : size - k = size - (k + 1) + 1 := by omega
  rw [e, Nat.pow_succ, ← Nat.div_div_eq_div_mul]
  generalize n / 4 ^ (size - (k + 1)) = q
  omega
theorem divq (n k : Nat) : n / 4 ^ k ≤ n := Nat.div_le_self _ _
theorem spread_ (n size : Nat) (w : World) (hw : n ≤ 1099511627776 ∧ size ≤ 12) : CSpec Try.prog 132 [.int .i64 (n : Int), .int .i64 (size : Int)] [] w (Fresh 3 1 size (ncs (sp n size)) []) := by
  have hdv := fun k => divq n k
  refine spec_ownM Try.func132 rfl Try.ntmps132 rfl (l0 := [(0, .int .i64 (n : Int)), (1, .int .i64 (size : Int))]) rfl ?_
  refine J.noPanic ?_
  repeat' first
    | (refine J.qv ?_; (with_reducible apply exq); focus (first
      | ((with_reducible apply Qv.shr); exact rfl; exact rfl; (first | decide | omega); exact shr2 hk)
      | ((with_reducible apply Qv.andE); exact rfl; exact rfl; exact and3 (Nat.lt_of_le_of_lt (hdv _) (by omega)))
      | ((with_reducible apply Qv.indexBlk (b := b)); exact rfl; exact rfl; (constructor <;> omega); exact rfl)))
    | ((with_reducible apply J.makeSlice (len := size)); exact rfl; exact rfl; exact rfl; exact rfl; exact rfl; omega; decide; intro _)
    | ((with_reducible apply J.store1); exact rfl; exact rfl; exact rfl; (repeat (first | with_reducible exact Upd.here | with_reducible apply Upd.there)); exact tab_put (k := k) (by simp) hk; (rw [tab_length]; omega))
    | ((with_reducible apply J.iterB (backward_int _ _ _)); exact rfl; exact rfl; intro _)
    | refine J.one ?_
    | refine J.loudS ?_
    | (refine J.loudQ ?_; intro _ _)
    | (refine J.loudB ?_; intro _)
    | (with_reducible apply J.list)
    | ((with_reducible apply J.gsplit); exact rfl; exact rfl)
    | ((with_reducible first | apply J.cond | apply JC.cond); exact rfl)
    | (intro h; exfalso; fail)
    | (intro h; (try simp only [decide_eq_true_eq, decide_eq_false_iff_not, beq_iff_eq, beq_eq_false_iff_ne, Bool.not_eq_true', Bool.not_eq_false', bne_iff_ne, bne_eq_false_iff_eq, ne_eq, ge_iff_le, gt_iff_lt] at h))
    | (with_reducible apply J.gave')
    | ((with_reducible apply J.kept'); rotate_left; (repeat (first | (with_reducible exact Outs.nil) | ((with_reducible apply Outs.cons); (repeat (first | with_reducible exact Out.here | with_reducible apply Out.there))))))
  rename_i p2 b p5 Bs
  have e0 : n = n / 4 ^ (size - size) := by simp
  have e1 : tab (fun _ => Value.int .i64 0) size = tab (dpart n size size) size := tab_same fun j hj => by unfold dpart; rw [if_neg (by omega)]
  rw [e1]
  apply J.reB (b := p2) (C' := [.int .i64 ((n / 4 ^ (size - size) : Nat) : Int)])
  · (repeat (first | with_reducible exact Upd.here | with_reducible apply Upd.there))
  · rw [← e0]
  apply J.rangeG (ps := [11, 12]) (back_int Bs b size size (fun _ => 0) (by simp only [maxLen]; omega)) (fun _ (_ : Unit) => True) (fun k _ => [blk b (tab (dpart n size k) size) 3, blk p5 [.slice (some ⟨b, 0, none⟩) size size] 191, blk p2 [.int .i64 ((n / 4 ^ (size - k) : Nat) : Int)] 3, blk Bs [.slice (some ⟨b, 0, none⟩) size size] 191]) [falseA] (fun k => [(6, .int .i64 (k : Int)), (5, .pointer (some ⟨p5, 0, none⟩)), (2, .pointer (some ⟨p2, 0, none⟩))]) ()
  case hg => rfl
  case hps => rfl
  case hlen => exact fun k => rfl
  case hF => exact fun k _ W _ s => ⟨s.cell (.tail _ (.tail _ (.tail _ (.head _)))) rfl, fun j hj hlt => s.cell (.head _) (by subst hj; rw [tab_get hlt]; unfold dpart; rw [if_neg (by omega)])⟩
  case hI => trivial
  case ho => ((try dsimp only); (repeat (first | (with_reducible exact Outs.nil) | ((with_reducible apply Outs.cons); (repeat (first | with_reducible exact Out.here | with_reducible apply Out.there))))))
  case hm => kernel_rfl
  case hka => rfl
  case hkb => rfl
  case hassign =>
    intro k A
    try dsimp only [putSl]
    repeat' first
      | (refine J.qv ?_; (with_reducible apply exq); focus (first
        | ((with_reducible apply Qv.shr); exact rfl; exact rfl; (first | decide | omega); exact shr2 hk)
        | ((with_reducible apply Qv.andE); exact rfl; exact rfl; exact and3 (Nat.lt_of_le_of_lt (hdv _) (by omega)))
        | ((with_reducible apply Qv.indexBlk (b := b)); exact rfl; exact rfl; (constructor <;> omega); exact rfl)))
      | ((with_reducible apply J.makeSlice (len := size)); exact rfl; exact rfl; exact rfl; exact rfl; exact rfl; omega; decide; intro _)
      | ((with_reducible apply J.store1); exact rfl; exact rfl; exact rfl; (repeat (first | with_reducible exact Upd.here | with_reducible apply Upd.there)); exact tab_put (k := k) (by simp) hk; (rw [tab_length]; omega))
      | ((with_reducible apply J.iterB (backward_int _ _ _)); exact rfl; exact rfl; intro _)
      | refine J.one ?_
      | refine J.loudS ?_
      | (refine J.loudQ ?_; intro _ _)
      | (refine J.loudB ?_; intro _)
      | (with_reducible apply J.list)
      | ((with_reducible apply J.gsplit); exact rfl; exact rfl)
      | ((with_reducible first | apply J.cond | apply JC.cond); exact rfl)
      | (intro h; exfalso; fail)
      | (intro h; (try simp only [decide_eq_true_eq, decide_eq_false_iff_not, beq_iff_eq, beq_eq_false_iff_ne, Bool.not_eq_true', Bool.not_eq_false', bne_iff_ne, bne_eq_false_iff_eq, ne_eq, ge_iff_le, gt_iff_lt] at h))
      | (with_reducible apply J.gave')
      | ((with_reducible apply J.kept'); rotate_left; (repeat (first | (with_reducible exact Outs.nil) | ((with_reducible apply Outs.cons); (repeat (first | with_reducible exact Out.here | with_reducible apply Out.there))))))
    all_goals ((try dsimp only); apply J.stE; ((try dsimp only); repeat (first | exact sub.nil _ | (refine sub.consE rfl ?_ ?_; (first | with_reducible rfl | (fail) | rfl)))))
  case hbody =>
    rintro ll D rc k ⟨⟩ hk _
    try dsimp only at *
    repeat' first
      | (refine J.qv ?_; (with_reducible apply exq); focus (first
        | ((with_reducible apply Qv.shr); exact rfl; exact rfl; (first | decide | omega); exact shr2 hk)
        | ((with_reducible apply Qv.andE); exact rfl; exact rfl; exact and3 (Nat.lt_of_le_of_lt (hdv _) (by omega)))
        | ((with_reducible apply Qv.indexBlk (b := b)); exact rfl; exact rfl; (constructor <;> omega); exact rfl)))
      | ((with_reducible apply J.makeSlice (len := size)); exact rfl; exact rfl; exact rfl; exact rfl; exact rfl; omega; decide; intro _)
      | ((with_reducible apply J.store1); exact rfl; exact rfl; exact rfl; (repeat (first | with_reducible exact Upd.here | with_reducible apply Upd.there)); exact tab_put (k := k) (by simp) hk; (rw [tab_length]; omega))
      | ((with_reducible apply J.iterB (backward_int _ _ _)); exact rfl; exact rfl; intro _)
      | refine J.one ?_
      | refine J.loudS ?_
      | (refine J.loudQ ?_; intro _ _)
      | (refine J.loudB ?_; intro _)
      | (with_reducible apply J.list)
      | ((with_reducible apply J.gsplit); exact rfl; exact rfl)
      | ((with_reducible first | apply J.cond | apply JC.cond); exact rfl)
      | (intro h; exfalso; fail)
      | (intro h; (try simp only [decide_eq_true_eq, decide_eq_false_iff_not, beq_iff_eq, beq_eq_false_iff_ne, Bool.not_eq_true', Bool.not_eq_false', bne_iff_ne, bne_eq_false_iff_eq, ne_eq, ge_iff_le, gt_iff_lt] at h))
      | (with_reducible apply J.gave')
      | ((with_reducible apply J.kept'); rotate_left; (repeat (first | (with_reducible exact Outs.nil) | ((with_reducible apply Outs.cons); (repeat (first | with_reducible exact Out.here | with_reducible apply Out.there))))))
    all_goals
      first
      | (rw [dpart_put hk]
         apply J.lvN () trivial
         (dsimp only [List.cons_append, List.nil_append]; (repeat (first | (with_reducible exact Outs.nil) | ((with_reducible apply Outs.cons); (repeat (first | with_reducible exact Out.here | with_reducible apply Out.there)))))))
      | (trace_state; fail)
  case hdone =>
    rintro ⟨⟩ _ D
    try dsimp only at *
    repeat' first
      | (refine J.qv ?_; (with_reducible apply exq); focus (first
        | ((with_reducible apply Qv.shr); exact rfl; exact rfl; (first | decide | omega); exact shr2 hk)
        | ((with_reducible apply Qv.andE); exact rfl; exact rfl; exact and3 (Nat.lt_of_le_of_lt (hdv _) (by omega)))
        | ((with_reducible apply Qv.indexBlk (b := b)); exact rfl; exact rfl; (constructor <;> omega); exact rfl)))
      | ((with_reducible apply J.makeSlice (len := size)); exact rfl; exact rfl; exact rfl; exact rfl; exact rfl; omega; decide; intro _)
      | ((with_reducible apply J.store1); exact rfl; exact rfl; exact rfl; (repeat (first | with_reducible exact Upd.here | with_reducible apply Upd.there)); exact tab_put (k := k) (by simp) hk; (rw [tab_length]; omega))
      | ((with_reducible apply J.iterB (backward_int _ _ _)); exact rfl; exact rfl; intro _)
      | refine J.one ?_
      | refine J.loudS ?_
      | (refine J.loudQ ?_; intro _ _)
      | (refine J.loudB ?_; intro _)
      | (with_reducible apply J.list)
      | ((with_reducible apply J.gsplit); exact rfl; exact rfl)
      | ((with_reducible first | apply J.cond | apply JC.cond); exact rfl)
      | (intro h; exfalso; fail)
      | (intro h; (try simp only [decide_eq_true_eq, decide_eq_false_iff_not, beq_iff_eq, beq_eq_false_iff_ne, Bool.not_eq_true', Bool.not_eq_false', bne_iff_ne, bne_eq_false_iff_eq, ne_eq, ge_iff_le, gt_iff_lt] at h))
      | (with_reducible apply J.gave')
      | ((with_reducible apply J.kept'); rotate_left; (repeat (first | (with_reducible exact Outs.nil) | ((with_reducible apply Outs.cons); (repeat (first | with_reducible exact Out.here | with_reducible apply Out.there))))))
    all_goals
      first
      | (exact J.freshBlk (by (repeat (first | with_reducible exact Out.here | with_reducible apply Out.there))) (by rw [sp_tab]; refine tab_same fun j hj => ?_; unfold dpart; rw [if_pos (Nat.zero_le _)]) (by rw [ncs_length, sp_length]; omega) (by simp only [maxLen]; omega))
      | (trace_state; fail)
  case hstop =>
    intro D
    exact J.absurd_ (.there .here)
/-- A text's digits. -/
def dg1 (l : List UInt8) : List Nat := sp (be ((sha l).take 3)) 12
def dgs (l : List UInt8) : List Nat := dg1 l ++ sp (36 - (dg1 l).sum) 3
theorem dgs_length (l : List UInt8) : (dgs l).length = 15 := by simp [dgs, dg1, sp_length]
theorem dgs_le {l : List UInt8} {x : Nat} (h : x ∈ dgs l) : x ≤ 3 := by
  simp only [dgs, List.mem_append] at h
  rcases h with h | h <;> exact sp_le h
theorem be3 (l : List UInt8) : be ((sha l).take 3) < 16777216 := by
  have h := be_lt ((sha l).take 3)
  rw [List.length_take, sha_length] at h
  exact h
theorem digits_ (ao : Option Addr) (n cap : Nat) (l : List UInt8) (w : World) (hw : Rd w ao (bcs l) ∧ n = l.length ∧ l.length ≤ 1099511627776) : CSpec Try.prog 124 [.slice ao n cap] [] w (Fresh 3 1 15 (ncs (dgs l)) []) := by
  obtain ⟨hr, rfl, hl⟩ := hw
  have hb := be3 l
  refine spec_own0 Try.func124 rfl Try.ntmps124 rfl (l0 := [(0, .slice ao l.length cap)]) rfl ?_
  repeat' first
    | (refine J.qv ?_; (with_reducible apply exq); focus (first
      | ((with_reducible apply Qv.sliceTo (k := 3)); exact rfl; exact rfl; exact rfl; omega)))
    | ((with_reducible apply J.freshR (sum_ _ _ _ l)); exact rfl; exact rfl; (focus ((refine RH.and (RH.old hr) (RH.of ⟨rfl, hl⟩)))); intro _ _)
    | ((with_reducible apply J.givesR (int_ _ _ _ ((sha l).take 3))); exact rfl; exact rfl; focus ((refine RH.and (RH.take (RH.row (by (repeat (first | with_reducible exact In.here | with_reducible apply In.there))))) (RH.of ⟨?_, ?_, ?_⟩) <;> first | omega | (rw [List.length_take, sha_length]; omega))))
    | ((with_reducible apply J.freshR (spread_ (be ((sha l).take 3)) 12)); exact rfl; exact rfl; (focus ((refine RH.of ⟨?_, ?_⟩ <;> omega))); intro _ _)
    | refine J.one ?_
    | refine J.loudS ?_
    | (refine J.loudQ ?_; intro _ _)
    | (refine J.loudB ?_; intro _)
    | (with_reducible apply J.list)
    | ((with_reducible apply J.gsplit); exact rfl; exact rfl)
    | ((with_reducible first | apply J.cond | apply JC.cond); exact rfl)
    | (intro h; exfalso; fail)
    | (intro h; (try simp only [decide_eq_true_eq, decide_eq_false_iff_not, beq_iff_eq, beq_eq_false_iff_ne, Bool.not_eq_true', Bool.not_eq_false', bne_iff_ne, bne_eq_false_iff_eq, ne_eq, ge_iff_le, gt_iff_lt] at h))
    | (with_reducible apply J.gave')
    | ((with_reducible apply J.kept'); rotate_left; (repeat (first | (with_reducible exact Outs.nil) | ((with_reducible apply Outs.cons); (repeat (first | with_reducible exact Out.here | with_reducible apply Out.there))))))
  rename_i q hq
  rw [show sp (be ((sha l).take 3)) 12 = dg1 l from rfl]
  apply J.loopI (σ := Nat) (I := fun s => (s ≤ 12)) (L := fun s => [(3, .slice q.1 12 q.2), (12, .slice q.1 12 q.2), (13, .int .i64 12), (14, .int .i64 (s : Int)), (4, .int .i64 ((36 - ((dg1 l).take s).sum : Nat) : Int))]) (HH := fun s => [row (.slice q.1 12 q.2) 3 1 12 (ncs (dg1 l))]) (m := fun s => 12 - s) (s0 := 0)
  · ((try dsimp only); (exact Nat.zero_le _))
  · ((try dsimp only); repeat (first | exact sub.nil _ | (refine sub.consE rfl ?_ ?_; (first | with_reducible rfl | (fail) | rfl))))
  · ((try dsimp only); (repeat (first | (with_reducible exact Outs.nil) | ((with_reducible apply Outs.cons); (repeat (first | with_reducible exact Out.here | with_reducible apply Out.there))))))
  rintro i hI
  try dsimp only at hI ⊢
  have hs0 : ((dg1 l).take i).sum ≤ 36 := sum_take_le
  have hs1 : ((dg1 l).take (i + 1)).sum ≤ 36 := sum_take_le
  have hln : (dg1 l).length = 12 := sp_length _ _
  have hx2 : ∀ x, (dg1 l)[i]? = some x → ((dg1 l).take (i + 1)).sum = ((dg1 l).take i).sum + x := fun x h => sum_take h
  obtain ⟨x, hx⟩ : ∃ x, i < 12 → (dg1 l)[i]? = some x := by
    by_cases h : i < 12
    · exact ⟨(dg1 l)[i]'(by omega), fun _ => List.getElem?_eq_getElem _⟩
    · exact ⟨0, fun h' => absurd h' h⟩
  rcases Nat.lt_or_ge i 12 with hlt | hge
  · have hx := hx hlt
    have hx2 := hx2 x hx
    have hx3 : x ≤ 3 := sp_le (List.mem_of_getElem? hx)
    repeat' first
      | (refine J.qv ?_; (with_reducible apply exq); focus (first
        | ((with_reducible apply Qv.sub); exact rfl; exact rfl; exact wr64 (z := ((36 - ((dg1 l).take (i + 1)).sum : Nat) : Int)) (by omega) (by omega) (by omega))))
      | (refine J.qr ?_; (with_reducible apply exq); focus (first
        | ((with_reducible apply Qr.indexRd (k := i) (C := ncs (dg1 l))); exact rfl; exact rfl; exact rfl; (first | omega | (rw [ncs_length, dg1, sp_length]; omega)); exact RH.row (by (repeat (first | with_reducible exact In.here | with_reducible apply In.there))); (first | omega | (rw [ncs_length, dg1, sp_length]; omega)))
        | ((with_reducible apply Qr.rd1 (C := ncs (dg1 l))); exact rfl; exact RH.row (by (repeat (first | with_reducible exact In.here | with_reducible apply In.there))); (rw [Nat.mul_one]; exact ncs_get hx))))
      | ((with_reducible apply J.appendR (news := ncs (sp (36 - ((dg1 l).take 12).sum) 3))); exact rfl; exact rfl; (repeat (first | with_reducible exact Out.here | with_reducible apply Out.there)); exact rfl; exact RH.row (by (repeat (first | with_reducible exact In.here | with_reducible apply In.there))); (rw [ncs_length, sp_length]); exact ncs_ones _; exact rfl; exact rfl; (simp only [maxLen]; omega); omega; intro _ _)
      | ((with_reducible apply J.freshR (spread_ (36 - ((dg1 l).take 12).sum) 3)); exact rfl; exact rfl; (focus ((refine RH.of ⟨?_, ?_⟩ <;> omega))); intro _ _)
      | refine J.one ?_
      | refine J.loudS ?_
      | (refine J.loudQ ?_; intro _ _)
      | (refine J.loudB ?_; intro _)
      | (with_reducible apply J.list)
      | ((with_reducible apply J.gsplit); exact rfl; exact rfl)
      | ((with_reducible first | apply J.cond | apply JC.cond); exact rfl)
      | (intro h; exfalso; (first | (simp at h; done) | (simp at h; omega) | omega))
      | (intro h; (try simp only [decide_eq_true_eq, decide_eq_false_iff_not, beq_iff_eq, beq_eq_false_iff_ne, Bool.not_eq_true', Bool.not_eq_false', bne_iff_ne, bne_eq_false_iff_eq, ne_eq, ge_iff_le, gt_iff_lt] at h))
      | (with_reducible apply J.gave')
      | ((with_reducible apply J.kept'); rotate_left; (repeat (first | (with_reducible exact Outs.nil) | ((with_reducible apply Outs.cons); (repeat (first | with_reducible exact Out.here | with_reducible apply Out.there))))))
    all_goals
      first
      | (apply J.againI (s := i) (s' := (i + 1)); (focus (omega)); (focus ((try dsimp only); (show i + 1 ≤ 12; omega))); (focus (((try dsimp only); repeat (first | exact sub.nil _ | (refine sub.consE rfl ?_ ?_; (first | with_reducible rfl | ((focus (congr 1; omega))) | rfl)))))); ((try dsimp only); (repeat (first | (with_reducible exact Outs.nil) | ((with_reducible apply Outs.cons); (repeat (first | with_reducible exact Out.here | with_reducible apply Out.there)))))))
      | (trace_state; fail)
  · obtain rfl : i = 12 := by omega
    repeat' first
      | (refine J.qv ?_; (with_reducible apply exq); focus (first
        | ((with_reducible apply Qv.sub); exact rfl; exact rfl; exact wr64 (z := ((36 - ((dg1 l).take (i + 1)).sum : Nat) : Int)) (by omega) (by omega) (by omega))))
      | (refine J.qr ?_; (with_reducible apply exq); focus (first
        | ((with_reducible apply Qr.indexRd (k := i) (C := ncs (dg1 l))); exact rfl; exact rfl; exact rfl; (first | omega | (rw [ncs_length, dg1, sp_length]; omega)); exact RH.row (by (repeat (first | with_reducible exact In.here | with_reducible apply In.there))); (first | omega | (rw [ncs_length, dg1, sp_length]; omega)))
        | ((with_reducible apply Qr.rd1 (C := ncs (dg1 l))); exact rfl; exact RH.row (by (repeat (first | with_reducible exact In.here | with_reducible apply In.there))); (rw [Nat.mul_one]; exact ncs_get hx))))
      | ((with_reducible apply J.appendR (news := ncs (sp (36 - ((dg1 l).take 12).sum) 3))); exact rfl; exact rfl; (repeat (first | with_reducible exact Out.here | with_reducible apply Out.there)); exact rfl; exact RH.row (by (repeat (first | with_reducible exact In.here | with_reducible apply In.there))); (rw [ncs_length, sp_length]); exact ncs_ones _; exact rfl; exact rfl; (simp only [maxLen]; omega); omega; intro _ _)
      | ((with_reducible apply J.freshR (spread_ (36 - ((dg1 l).take 12).sum) 3)); exact rfl; exact rfl; (focus ((refine RH.of ⟨?_, ?_⟩ <;> omega))); intro _ _)
      | refine J.one ?_
      | refine J.loudS ?_
      | (refine J.loudQ ?_; intro _ _)
      | (refine J.loudB ?_; intro _)
      | (with_reducible apply J.list)
      | ((with_reducible apply J.gsplit); exact rfl; exact rfl)
      | ((with_reducible first | apply J.cond | apply JC.cond); exact rfl)
      | (intro h; exfalso; (first | (simp at h; done) | (simp at h; omega) | omega))
      | (intro h; (try simp only [decide_eq_true_eq, decide_eq_false_iff_not, beq_iff_eq, beq_eq_false_iff_ne, Bool.not_eq_true', Bool.not_eq_false', bne_iff_ne, bne_eq_false_iff_eq, ne_eq, ge_iff_le, gt_iff_lt] at h))
      | (with_reducible apply J.gave')
      | ((with_reducible apply J.kept'); rotate_left; (repeat (first | (with_reducible exact Outs.nil) | ((with_reducible apply Outs.cons); (repeat (first | with_reducible exact Out.here | with_reducible apply Out.there))))))
    all_goals
      first
      | (have e : (dg1 l).take 12 = dg1 l := List.take_of_length_le (by omega)
         rw [e]
         ((with_reducible apply J.freshRow); (repeat (first | with_reducible exact Out.here | with_reducible apply Out.there)); exact rfl; exact rfl; exact (ncs_append _ _).symm))
      | (trace_state; fail)
/-- So many steps. -/
def wk (s : List UInt8) : Nat → List UInt8
  | 0 => s
  | k + 1 => short (wk s k)
theorem wk_le {s : List UInt8} {m : Nat} (h : s.length ≤ m) (h8 : 8 ≤ m) : ∀ k, (wk s k).length ≤ m
  | 0 => h
  | k + 1 => by rw [wk, short_length]; exact h8
theorem clamp3 {k : Nat} (h : k ≤ 3) : imin (imax (k : Int) 0) 3 = (k : Int) := by unfold imin imax; split <;> split <;> omega
theorem walk_ (s : List UInt8) (k : Nat) (w : World) (hw : k ≤ 3 ∧ s.length ≤ 1099511627776) : CSpec Try.prog 125 [str s, .int .i64 (k : Int)] [] w (Gives (str (wk s k))) := by
  obtain ⟨h3, hl⟩ := hw
  refine spec_own0 Try.func125 rfl Try.ntmps125 rfl (l0 := [(0, str s), (1, .int .i64 (k : Int))]) rfl ?_
  repeat' first
    | ((with_reducible apply J.givesR (short_ _ _ _ [wk s i])); exact rfl; exact rfl; focus (exact RH.and (RH.sblk (by (repeat (first | with_reducible exact In.here | with_reducible apply In.there))) (RH.lcons (RH.bbat (by (repeat (first | with_reducible exact In.here | with_reducible apply In.there)))) RH.lnil)) (RH.of ⟨rfl, by simp; omega, by simp⟩)))
    | refine J.one ?_
    | refine J.loudS ?_
    | (refine J.loudQ ?_; intro _ _)
    | (refine J.loudB ?_; intro _)
    | (with_reducible apply J.list)
    | ((with_reducible apply J.gsplit); exact rfl; exact rfl)
    | ((with_reducible first | apply J.cond | apply JC.cond); exact rfl)
    | (intro h; exfalso; (first | (simp at h; done) | (simp at h; omega) | omega))
    | (intro h; (try simp only [decide_eq_true_eq, decide_eq_false_iff_not, beq_iff_eq, beq_eq_false_iff_ne, Bool.not_eq_true', Bool.not_eq_false', bne_iff_ne, bne_eq_false_iff_eq, ne_eq, ge_iff_le, gt_iff_lt] at h))
    | (with_reducible apply J.gave')
    | ((with_reducible apply J.kept'); rotate_left; (repeat (first | (with_reducible exact Outs.nil) | ((with_reducible apply Outs.cons); (repeat (first | with_reducible exact Out.here | with_reducible apply Out.there))))))
  rw [clamp3 h3]
  apply J.loopI (σ := Nat) (I := fun q => (q ≤ k)) (L := fun q => [(0, str (wk s q)), (7, .int .i64 (k : Int)), (8, .int .i64 (q : Int))]) (HH := fun q => []) (m := fun q => k - q) (s0 := 0)
  · ((try dsimp only); (exact Nat.zero_le _))
  · ((try dsimp only); repeat (first | exact sub.nil _ | (refine sub.consE rfl ?_ ?_; (first | with_reducible rfl | (fail) | rfl))))
  · ((try dsimp only); (repeat (first | (with_reducible exact Outs.nil) | ((with_reducible apply Outs.cons); (repeat (first | with_reducible exact Out.here | with_reducible apply Out.there))))))
  rintro i hI
  try dsimp only at hI ⊢
  have hwl := wk_le hl (by omega) i
  repeat' first
    | ((with_reducible apply J.givesR (short_ _ _ _ [wk s i])); exact rfl; exact rfl; focus (exact RH.and (RH.sblk (by (repeat (first | with_reducible exact In.here | with_reducible apply In.there))) (RH.lcons (RH.bbat (by (repeat (first | with_reducible exact In.here | with_reducible apply In.there)))) RH.lnil)) (RH.of ⟨rfl, by simp; omega, by simp⟩)))
    | refine J.one ?_
    | refine J.loudS ?_
    | (refine J.loudQ ?_; intro _ _)
    | (refine J.loudB ?_; intro _)
    | (with_reducible apply J.list)
    | ((with_reducible apply J.gsplit); exact rfl; exact rfl)
    | ((with_reducible first | apply J.cond | apply JC.cond); exact rfl)
    | (intro h; exfalso; (first | (simp at h; done) | (simp at h; omega) | omega))
    | (intro h; (try simp only [decide_eq_true_eq, decide_eq_false_iff_not, beq_iff_eq, beq_eq_false_iff_ne, Bool.not_eq_true', Bool.not_eq_false', bne_iff_ne, bne_eq_false_iff_eq, ne_eq, ge_iff_le, gt_iff_lt] at h))
    | (with_reducible apply J.gave')
    | ((with_reducible apply J.kept'); rotate_left; (repeat (first | (with_reducible exact Outs.nil) | ((with_reducible apply Outs.cons); (repeat (first | with_reducible exact Out.here | with_reducible apply Out.there))))))
  all_goals
    first
    | (have e0 : i = k := by omega
       subst e0
       rfl)
    | (apply J.againI (s := i) (s' := (i + 1)); (focus (omega)); (focus ((try dsimp only); omega)); (focus (((try dsimp only); repeat (first | exact sub.nil _ | (refine sub.consE rfl ?_ ?_; (first | with_reducible rfl | ((focus (first | (congr 1; omega) | (simp only [List.flatten_cons, List.flatten_nil, List.append_nil]; rfl)))) | rfl)))))); ((try dsimp only); (repeat (first | (with_reducible exact Outs.nil) | ((with_reducible apply Outs.cons); (repeat (first | with_reducible exact Out.here | with_reducible apply Out.there)))))))
    | (trace_state; fail)
section
variable {c : Cx} {l : TL} {H : List Asrt}
theorem J.batPack {v : Value} {bs : List UInt8} {V : List Value} {L : List (List UInt8)} {H1 H2 : List Asrt} {G : Act → World → Prop} (h1 : Out (bAt v bs) H H1) (h2 : Out (sepA (bsA V L)) H1 H2) (hl : V.length = L.length)
    (K : J c l (sepA (bsA (V ++ [v]) (L ++ [bs])) :: H2) G) : J c l H G := J.mk fun a w s => by
  have s1 := (s.2.2.perm h1.perm).perm (h2.perm.cons _)
  obtain ⟨fp, ⟨f, g, rfl, ha, f', g', rfl, hb, hg⟩, hnd, hi, hf⟩ := s1
  refine K.out a w ⟨s.1, s.2.1, (f' ++ f) ++ g', ⟨f' ++ f, g', rfl, ?_, hg⟩, ?_, ?_, hf⟩
  · have key : ∀ {V : List Value} {L : List (List UInt8)} {f'}, V.length = L.length → Holds (hp w) (bsA V L) f' → Holds (hp w) (bsA (V ++ [v]) (L ++ [bs])) (f' ++ f) := by
      intro V
      induction V with
      | nil =>
        intro L f' hl hh
        cases L with
        | nil =>
          obtain rfl : f' = [] := hh
          exact ⟨f, [], by simp, ha, rfl⟩
        | cons _ _ => simp at hl
      | cons u V ih =>
        intro L f' hl hh
        cases L with
        | nil => simp at hl
        | cons m L =>
          obtain ⟨f1, f2, rfl, h1, h2⟩ := hh
          exact ⟨f1, f2 ++ f, by simp, h1, ih (by simpa using hl) h2⟩
    exact key hl hb
  · have p : (f ++ (f' ++ g')).Perm ((f' ++ f) ++ g') := by
      rw [← List.append_assoc]
      exact List.perm_append_comm.append_right g'
    exact p.nodup_iff.1 hnd
  · intro i hi'
    refine hi i ?_
    simp only [List.mem_append] at hi' ⊢
    rcases hi' with (h | h) | h
    · exact .inr (.inl h)
    · exact .inl h
    · exact .inr (.inr h)
end
/-- Texts as cells. -/
def scs (l : List (List UInt8)) : List Value := l.map str
theorem scs_length (l : List (List UInt8)) : (scs l).length = l.length := by simp [scs]
theorem scs_append (l m : List (List UInt8)) : scs (l ++ m) = scs l ++ scs m := by simp [scs]
theorem scs_get {l : List (List UInt8)} {i : Nat} {x : List UInt8} (h : l[i]? = some x) : (scs l)[i]? = some (str x) := by simp [scs, h]
theorem scs_ones (l : List (List UInt8)) : (scs l).all (·.oneCell') = true := by simp [scs, Value.oneCell']
/-- Each walked the rest. -/
def closedL (P : List (List UInt8)) (F : List Nat) : List (List UInt8) := List.zipWith (fun p d => wk p (3 - d)) P F
theorem closedL_get {P : List (List UInt8)} {F : List Nat} {i d : Nat} {p : List UInt8} (h1 : P[i]? = some p) (h2 : F[i]? = some d) : (closedL P F)[i]? = some (wk p (3 - d)) := by
  unfold closedL
  rw [List.getElem?_zipWith, h1, h2]
theorem closedL_length {P : List (List UInt8)} {F : List Nat} (h : F.length = P.length) : (closedL P F).length = P.length := by simp [closedL, h]
theorem take_snoc {α : Type} {L : List α} {i : Nat} {x : α} (h : L[i]? = some x) : L.take (i + 1) = L.take i ++ [x] := by
  rw [List.take_add_one, h]
  rfl
theorem flat_max {m : Nat} : ∀ {L : List (List UInt8)}, (∀ x, x ∈ L → x.length ≤ m) → L.flatten.length ≤ m * L.length
  | [], _ => by simp
  | a :: L, h => by
    have h1 := flat_max (L := L) fun x hx => h x (by simp [hx])
    have h2 := h a (by simp)
    simp only [List.flatten_cons, List.length_append, List.length_cons, Nat.mul_add, Nat.mul_one]
    omega
theorem closedL_le {P : List (List UInt8)} {F : List Nat} (h : ∀ p, p ∈ P → p.length ≤ 8) : ∀ x, x ∈ closedL P F → x.length ≤ 8 := by
  intro x hx
  unfold closedL at hx
  obtain ⟨i, hi, e⟩ := List.getElem_of_mem hx
  rw [List.getElem_zipWith] at e
  subst e
  exact wk_le (h _ (List.getElem_mem _)) (Nat.le_refl _) _
theorem closed_ (ao : Option Addr) (n cap : Nat) (P : List (List UInt8)) (aof : Option Addr) (m capf : Nat) (F : List Nat) (w : World) (hw : (Rd w ao (scs P) ∧ Rd w aof (ncs F)) ∧ n = P.length ∧ m = F.length ∧ F.length = P.length ∧ (∀ x, x ∈ F → x ≤ 3) ∧ (∀ p, p ∈ P → p.length ≤ 8) ∧ P.length ≤ 1000) : CSpec Try.prog 119 [.slice ao n cap, .slice aof m capf] [] w (Gives (str (short (closedL P F).flatten))) := by
  obtain ⟨⟨hP, hF⟩, rfl, rfl, hl, h3, h8, hm⟩ := hw
  have hcl := closedL_length hl
  have hfm := flat_max (closedL_le (F := F) h8)
  refine spec_own0 Try.func119 rfl Try.ntmps119 rfl (l0 := [(0, .slice ao P.length cap), (1, .slice aof F.length capf)]) rfl ?_
  repeat' first
    | refine J.one ?_
    | refine J.loudS ?_
    | (refine J.loudQ ?_; intro _ _)
    | (refine J.loudB ?_; intro _)
    | (with_reducible apply J.list)
    | ((with_reducible apply J.gsplit); exact rfl; exact rfl)
    | ((with_reducible first | apply J.cond | apply JC.cond); exact rfl)
    | (intro h; exfalso; fail)
    | (intro h; (try simp only [decide_eq_true_eq, decide_eq_false_iff_not, beq_iff_eq, beq_eq_false_iff_ne, Bool.not_eq_true', Bool.not_eq_false', bne_iff_ne, bne_eq_false_iff_eq, ne_eq, ge_iff_le, gt_iff_lt] at h))
    | (with_reducible apply J.gave')
    | ((with_reducible apply J.kept'); rotate_left; (repeat (first | (with_reducible exact Outs.nil) | ((with_reducible apply Outs.cons); (repeat (first | with_reducible exact Out.here | with_reducible apply Out.there))))))
  refine J.nilRow 54 1 ?_
  refine J.packNil ?_
  rw [show ([] : List (List UInt8)) = (closedL P F).take 0 from rfl]
  apply J.loopI (σ := (Nat × (Option Addr × Nat) × List Value)) (I := fun s => (s.1 ≤ P.length ∧ s.2.2.length = s.1)) (L := fun s => [(1, .slice aof F.length capf), (8, .slice ao P.length cap), (9, .int .i64 (P.length : Int)), (10, .int .i64 (s.1 : Int)), (5, .slice s.2.1.1 s.1 s.2.1.2)]) (HH := fun s => [row (.slice s.2.1.1 s.1 s.2.1.2) 54 1 s.1 s.2.2, sepA (bsA s.2.2 ((closedL P F).take s.1))]) (m := fun s => P.length - s.1) (s0 := (0, (none, 0), []))
  · ((try dsimp only); (exact ⟨Nat.zero_le _, rfl⟩))
  · ((try dsimp only); repeat (first | exact sub.nil _ | (refine sub.consE rfl ?_ ?_; (first | with_reducible rfl | (fail) | rfl))))
  · ((try dsimp only); (repeat (first | (with_reducible exact Outs.nil) | ((with_reducible apply Outs.cons); (repeat (first | with_reducible exact Out.here | with_reducible apply Out.there))))))
  rintro ⟨i, q, V⟩ ⟨hI, hV⟩
  try dsimp only at *
  rcases Nat.lt_or_ge i P.length with hlt | hge
  · obtain ⟨p, hp⟩ : ∃ p, P[i]? = some p := ⟨_, List.getElem?_eq_getElem hlt⟩
    obtain ⟨d, hd⟩ : ∃ d, F[i]? = some d := ⟨_, List.getElem?_eq_getElem (by omega)⟩
    have hd3 := h3 d (List.mem_of_getElem? hd)
    have hp8 := h8 p (List.mem_of_getElem? hp)
    have hts := take_snoc (closedL_get hp hd)
    have htl : ((closedL P F).take i).length = i := by rw [List.length_take]; omega
    repeat' first
      | (refine J.qv ?_; (with_reducible apply exq); focus (first
        | ((with_reducible apply Qv.sub); exact rfl; exact rfl; exact wr64 (z := ((3 - d : Nat) : Int)) (by omega) (by omega) (by omega))))
      | (refine J.qr ?_; (with_reducible apply exq); focus (first
        | ((with_reducible apply Qr.indexRd (k := i) (C := scs P)); exact rfl; exact rfl; exact rfl; (first | omega | (rw [scs_length]; omega)); exact RH.old hP; (first | omega | (rw [scs_length]; omega)))
        | ((with_reducible apply Qr.rd1 (C := scs P)); exact rfl; exact RH.old hP; (rw [Nat.mul_one]; exact scs_get hp))
        | ((with_reducible apply Qr.indexRd (k := i) (C := ncs F)); exact rfl; exact rfl; exact rfl; (first | omega | (rw [ncs_length]; omega)); exact RH.old hF; (first | omega | (rw [ncs_length]; omega)))
        | ((with_reducible apply Qr.rd1 (C := ncs F)); exact rfl; exact RH.old hF; (rw [Nat.mul_one]; exact ncs_get hd))))
      | ((with_reducible apply J.appendR (news := [_])); exact rfl; exact rfl; (repeat (first | with_reducible exact Out.here | with_reducible apply Out.there)); exact rfl; exact RH.blk0 (by (repeat (first | with_reducible exact In.here | with_reducible apply In.there))); exact rfl; exact rfl; exact rfl; exact rfl; (simp only [maxLen]; omega); omega; intro _ _)
      | ((with_reducible apply J.givesR (walk_ p (3 - d))); exact rfl; exact rfl; focus (refine RH.of ⟨?_, ?_⟩ <;> omega))
      | refine J.one ?_
      | refine J.loudS ?_
      | (refine J.loudQ ?_; intro _ _)
      | (refine J.loudB ?_; intro _)
      | (with_reducible apply J.list)
      | ((with_reducible apply J.gsplit); exact rfl; exact rfl)
      | ((with_reducible first | apply J.cond | apply JC.cond); exact rfl)
      | (intro h; exfalso; (first | (simp at h; done) | (simp at h; omega) | omega))
      | (intro h; (try simp only [decide_eq_true_eq, decide_eq_false_iff_not, beq_iff_eq, beq_eq_false_iff_ne, Bool.not_eq_true', Bool.not_eq_false', bne_iff_ne, bne_eq_false_iff_eq, ne_eq, ge_iff_le, gt_iff_lt] at h))
      | (with_reducible apply J.gave')
      | ((with_reducible apply J.kept'); rotate_left; (repeat (first | (with_reducible exact Outs.nil) | ((with_reducible apply Outs.cons); (repeat (first | with_reducible exact Out.here | with_reducible apply Out.there))))))
    all_goals
      (rename_i q1 _ b q2 _
       apply J.batPack (V := V) (L := (closedL P F).take i)
       · (repeat (first | with_reducible exact Out.here | with_reducible apply Out.there))
       · (repeat (first | with_reducible exact Out.here | with_reducible apply Out.there))
       · omega
       rw [← hts]
       (apply J.againI (s := (i, q, V)) (s' := (i + 1, q2, V ++ [.slice (some ⟨q1.1, 0, none⟩) (wk p (3 - d)).length q1.2])); (focus (omega)); (focus ((try dsimp only); (refine ⟨?_, ?_⟩ <;> first | omega | (simp; omega) | (show i + 1 ≤ P.length; omega)))); (focus (((try dsimp only); repeat (first | exact sub.nil _ | (refine sub.consE rfl ?_ ?_; (first | with_reducible rfl | ((focus (congr 1; omega))) | rfl)))))); ((try dsimp only); (repeat (first | (with_reducible exact Outs.nil) | ((with_reducible apply Outs.cons); (repeat (first | with_reducible exact Out.here | with_reducible apply Out.there))))))))
  · obtain rfl : i = P.length := by omega
    have htk : (closedL P F).take P.length = closedL P F := List.take_of_length_le (by omega)
    rw [htk]
    repeat' first
      | ((with_reducible apply J.givesR (short_ _ _ _ (closedL P F))); exact rfl; exact rfl; (focus (refine RH.and (RH.srow (by (repeat (first | with_reducible exact In.here | with_reducible apply In.there))) (RH.lbs (by (repeat (first | with_reducible exact In.here | with_reducible apply In.there))) ?_)) (RH.of ⟨?_, ?_, ?_⟩) <;> omega)))
      | refine J.one ?_
      | refine J.loudS ?_
      | (refine J.loudQ ?_; intro _ _)
      | (refine J.loudB ?_; intro _)
      | (with_reducible apply J.list)
      | ((with_reducible apply J.gsplit); exact rfl; exact rfl)
      | ((with_reducible first | apply J.cond | apply JC.cond); exact rfl)
      | (intro h; exfalso; (first | (simp at h; done) | (simp at h; omega) | omega))
      | (intro h; (try simp only [decide_eq_true_eq, decide_eq_false_iff_not, beq_iff_eq, beq_eq_false_iff_ne, Bool.not_eq_true', Bool.not_eq_false', bne_iff_ne, bne_eq_false_iff_eq, ne_eq, ge_iff_le, gt_iff_lt] at h))
      | (with_reducible apply J.gave')
      | ((with_reducible apply J.kept'); rotate_left; (repeat (first | (with_reducible exact Outs.nil) | ((with_reducible apply Outs.cons); (repeat (first | with_reducible exact Out.here | with_reducible apply Out.there))))))
    all_goals
      first
      | rfl
      | (trace_state; fail)
/-- Which is the first one; -1: none. -/
def findI (p : Nat → Bool) (N : Nat) : Int := match (List.range N).find? p with | some i => (i : Int) | none => -1
theorem findI_at {p : Nat → Bool} {N i : Nat} (hi : i < N) (hp : p i = true) (h0 : ∀ j, j < i → p j = false) : findI p N = (i : Int) := by
  unfold findI
  have e : (List.range N).find? p = some i := by
    rw [List.find?_range_eq_some]
    exact ⟨hp, by simp [hi], fun j hj => by simp [h0 j hj]⟩
  rw [e]
theorem findI_none {p : Nat → Bool} {N : Nat} (h0 : ∀ j, j < N → p j = false) : findI p N = -1 := by
  unfold findI
  have e : (List.range N).find? p = none := by
    rw [List.find?_eq_none]
    intro j hj
    rw [h0 j (by simpa using hj)]
    decide
  rw [e]
theorem findI_lt {p : Nat → Bool} {N : Nat} : findI p N < N := by
  unfold findI
  split
  · rename_i i h
    have := List.mem_of_find?_eq_some h
    simp at this
    omega
  · omega
theorem findI_or {p : Nat → Bool} {N : Nat} : (findI p N = -1 ∧ ∀ j, j < N → p j = false) ∨ ∃ i, i < N ∧ findI p N = (i : Int) ∧ p i = true ∧ ∀ j, j < i → p j = false := by
  by_cases h : ∀ j, j < N → p j = false
  · exact .inl ⟨findI_none h, h⟩
  · right
    have h1 : ∃ j, j < N ∧ p j = true := by
      apply Classical.byContradiction
      intro hn
      apply h
      intro j hj
      cases hb : p j with
      | false => rfl
      | true => exact absurd ⟨j, hj, hb⟩ hn
    have key : ∀ m, (∃ j, j < m ∧ p j = true) → ∃ i, i < m ∧ p i = true ∧ ∀ j, j < i → p j = false := by
      intro m
      induction m with
      | zero => rintro ⟨j, hj, _⟩; omega
      | succ m ih =>
        rintro ⟨j, hj, hpj⟩
        by_cases hm : ∃ j, j < m ∧ p j = true
        · obtain ⟨i, h1, h2, h3⟩ := ih hm
          exact ⟨i, by omega, h2, h3⟩
        · refine ⟨m, by omega, ?_, ?_⟩
          · have : j = m := by
              apply Classical.byContradiction
              intro hne
              exact hm ⟨j, by omega, hpj⟩
            exact this ▸ hpj
          · intro k hk
            cases hb : p k with
            | false => rfl
            | true => exact absurd ⟨k, hk, hb⟩ hm
    obtain ⟨i, h2, h3, h4⟩ := key N h1
    exact ⟨i, h2, findI_at h2 h3 h4, h3, h4⟩
end Go.Proofs.Ytfcaeifpclpnoaa.Ots
