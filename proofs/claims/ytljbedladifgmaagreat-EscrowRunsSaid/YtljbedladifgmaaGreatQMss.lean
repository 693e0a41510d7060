/-
  What a signature leads to. No conditions.
-/
import Derived.Test.YtljbedladifgmaaGreatQDeal
import Derived.Test.YtljbedladifgmaaGreatQFv
namespace Go.Proofs.YtljbedladifgmaaGreat.Ots
open Go Go.RowKit Eng
set_option linter.unusedVariables false
set_option maxRecDepth 100000
set_option linter.unusedSimpArgs false
open Sha Iter Hash Bytes
set_option maxHeartbeats 1000000
open Go.Proofs.YtljbedladifgmaaGreat.Hsum
/-- Whole numbers as cells. -/
def ncs (l : List Nat) : List Value := l.map fun (x : Nat) => .int .i64 (x : Int)
theorem ncs_length (l : List Nat) : (ncs l).length = l.length := by simp [ncs]
theorem ncs_append (l m : List Nat) : ncs (l ++ m) = ncs l ++ ncs m := by simp [ncs]
theorem ncs_get {l : List Nat} {i x : Nat} (h : l[i]? = some x) : (ncs l)[i]? = some (.int .i64 (x : Int)) := by simp [ncs, h]
theorem ncs_ones (l : List Nat) : (ncs l).all (·.oneCell') = true := by simp [ncs, Value.oneCell']
/-- A number's digits, the highest first. -/
def sp (n : Nat) : Nat → List Nat
  | 0 => []
  | k + 1 => sp (n / 4) k ++ [n % 4]
theorem sp_length : ∀ (k n : Nat), (sp n k).length = k
  | 0, _ => rfl
  | k + 1, n => by simp [sp, sp_length k]
theorem sp_get : ∀ {k n j : Nat}, j < k → (sp n k)[j]? = some (n / 4 ^ (k - 1 - j) % 4)
  | 0, _, j, h => by omega
  | k + 1, n, j, h => by
    rw [sp]
    rcases Nat.lt_or_ge j k with h1 | h1
    · rw [List.getElem?_append_left (by rw [sp_length]; exact h1), sp_get h1, Nat.div_div_eq_div_mul]
      congr 3
      rw [show k + 1 - 1 - j = (k - 1 - j) + 1 by omega, Nat.pow_succ, Nat.mul_comm]
    · have e : j = k := by omega
      subst e
      rw [List.getElem?_append_right (by rw [sp_length]; exact Nat.le_refl _), sp_length]
      simp
theorem sp_le {n k x : Nat} (h : x ∈ sp n k) : x ≤ 3 := by
  obtain ⟨j, hj, e⟩ := List.getElem_of_mem h
  have h1 := List.getElem?_eq_getElem hj
  rw [sp_length] at hj
  rw [sp_get hj, e] at h1
  cases h1
  omega
theorem sp_tab (n k : Nat) : ncs (sp n k) = tab (fun j => .int .i64 ((n / 4 ^ (k - 1 - j) % 4 : Nat) : Int)) k := by
  refine tab_eq (by rw [ncs_length, sp_length]) fun j hj => ?_
  rw [ncs_get (sp_get hj)]
theorem sum_take {l : List Nat} {i x : Nat} (h : l[i]? = some x) : (l.take (i + 1)).sum = (l.take i).sum + x := by
  rw [List.take_add_one, h]
  simp
theorem sum_le {l : List Nat} (h : ∀ x, x ∈ l → x ≤ 3) : l.sum ≤ 3 * l.length := by
  induction l with
  | nil => simp
  | cons a l ih =>
    have h1 := ih fun x hx => h x (by simp [hx])
    have h2 := h a (by simp)
    simp
    omega
theorem sum_take_le {n k i : Nat} : ((sp n k).take i).sum ≤ 3 * k := by
  have h := sum_le (l := (sp n k).take i) fun x hx => sp_le (List.mem_of_mem_take hx)
  have h2 : ((sp n k).take i).length ≤ k := by rw [List.length_take, sp_length]; omega
  omega
/-- The digits that are there with k rounds to go. -/
def dpart (n size k : Nat) (j : Nat) : Value := if k ≤ j then .int .i64 ((n / 4 ^ (size - 1 - j) % 4 : Nat) : Int) else .int .i64 0
theorem dpart_put {n size k : Nat} (hk : k < size) : tab (fun j => if j = k then Value.int .i64 ((n / 4 ^ (size - (k + 1)) % 4 : Nat) : Int) else dpart n size (k + 1) j) size = tab (dpart n size k) size := by
  refine tab_same fun j hj => ?_
  unfold dpart
  by_cases h : j = k
  · subst h
    rw [if_pos rfl, if_pos (Nat.le_refl _)]
    congr 5
    omega
  · rw [if_neg h]
    by_cases h2 : k ≤ j
    · rw [if_pos (by omega), if_pos h2]
    · rw [if_neg (by omega), if_neg h2]
theorem and64_low {m : Nat} (h1 : m < 9223372036854775808) (k : Nat) (hk : k ≤ 32) : andI .i64 (m : Int) ((2 ^ k - 1 : Nat) : Int) = ((m % 2 ^ k : Nat) : Int) := by
  have hp : 2 ^ k ≤ 4294967296 := Nat.le_trans (Nat.pow_le_pow_right (n := 2) (by omega) hk) (by omega)
  have hp0 := Nat.two_pow_pos k
  have e1 : (BitVec.ofInt IntKind.i64.bits (m : Int) &&& BitVec.ofInt IntKind.i64.bits ((2 ^ k - 1 : Nat) : Int)).toNat = m % 2 ^ k := by
    rw [BitVec.toNat_and, BitVec.ofInt_natCast, BitVec.ofInt_natCast, BitVec.toNat_ofNat, BitVec.toNat_ofNat]
    have b : IntKind.i64.bits = 64 := rfl
    rw [b, Nat.mod_eq_of_lt (by omega), Nat.mod_eq_of_lt (a := 2 ^ k - 1) (by omega), Nat.and_two_pow_sub_one_eq_mod]
  unfold andI
  rw [e1]
  have h2 := Nat.mod_lt m hp0
  exact wr64 (by omega) (by omega) rfl
theorem and3 {m : Nat} (h : m < 9223372036854775808) : andI .i64 (m : Int) 3 = ((m % 4 : Nat) : Int) := and64_low h 2 (by decide)
theorem shr2 {n size k : Nat} (hk : k < size) : ((n / 4 ^ (size - (k + 1)) : Nat) : Int).fdiv (2 ^ 2) = ((n / 4 ^ (size - k) : Nat) : Int) := by
  rw [Int.fdiv_eq_ediv_of_nonneg _ (by decide)]
  have e : size - k = size - (k + 1) + 1 := by omega
  rw [e, Nat.pow_succ, ← Nat.div_div_eq_div_mul]
  generalize n / 4 ^ (size - (k + 1)) = q
  omega
theorem divq (n k : Nat) : n / 4 ^ k ≤ n := Nat.div_le_self _ _
theorem spread_ (n size : Nat) (w : World) (hw : n ≤ 1099511627776 ∧ size ≤ 12) : CSpec Tryz.prog 180 [.int .i64 (n : Int), .int .i64 (size : Int)] [] w (Fresh 3 1 size (ncs (sp n size)) []) := by
  have hdv := fun k => divq n k
  refine spec_ownM Tryz.func180 rfl Tryz.ntmps180 rfl (l0 := [(0, .int .i64 (n : Int)), (1, .int .i64 (size : Int))]) rfl ?_
  refine J.noPanic ?_
  repeat' first
    | (refine J.qv ?_; (with_reducible apply exq); focus (first
      | ((with_reducible apply Qv.shr); exact rfl; exact rfl; (first | decide | omega); exact shr2 hk)
      | ((with_reducible apply Qv.andE); exact rfl; exact rfl; exact and3 (Nat.lt_of_le_of_lt (hdv _) (by omega)))
      | ((with_reducible apply Qv.indexBlk (b := b)); exact rfl; exact rfl; (constructor <;> omega); exact rfl)))
    | ((with_reducible apply J.makeSlice (len := size)); exact rfl; exact rfl; exact rfl; exact rfl; exact rfl; omega; decide; intro _)
    | ((with_reducible apply J.store1); exact rfl; exact rfl; exact rfl; (repeat (first | with_reducible exact Upd.here | with_reducible apply Upd.there)); exact tab_put (k := k) (by simp) hk; (rw [tab_length]; omega))
    | ((with_reducible apply J.iterB (backward_int _ _ _)); exact rfl; exact rfl; intro _)
    | refine J.one ?_
    | refine J.loudS ?_
    | (refine J.loudQ ?_; intro _ _)
    | (refine J.loudB ?_; intro _)
    | (with_reducible apply J.list)
    | ((with_reducible apply J.gsplit); exact rfl; exact rfl)
    | ((with_reducible first | apply J.cond | apply JC.cond); exact rfl)
    | (intro h; exfalso; fail)
    | (intro h; (try simp only [decide_eq_true_eq, decide_eq_false_iff_not, beq_iff_eq, beq_eq_false_iff_ne, Bool.not_eq_true', Bool.not_eq_false', bne_iff_ne, bne_eq_false_iff_eq, ne_eq, ge_iff_le, gt_iff_lt] at h))
    | (with_reducible apply J.gave')
    | ((with_reducible apply J.kept'); rotate_left; (first | exact outs_au | fail))
  rename_i p2 b p5 Bs
  have e0 : n = n / 4 ^ (size - size) := by simp
  have e1 : tab (fun _ => Value.int .i64 0) size = tab (dpart n size size) size := tab_same fun j hj => by unfold dpart; rw [if_neg (by omega)]
  rw [e1]
  apply J.reB (b := p2) (C' := [.int .i64 ((n / 4 ^ (size - size) : Nat) : Int)])
  · (repeat (first | with_reducible exact Upd.here | with_reducible apply Upd.there))
  · rw [← e0]
  apply J.rangeG (ps := [11, 12]) (back_int Bs b size size (fun _ => 0) (by simp only [maxLen]; omega)) (fun _ (_ : Unit) => True) (fun k _ => [blk b (tab (dpart n size k) size) 3, blk p5 [.slice (some ⟨b, 0, none⟩) size size] 23, blk p2 [.int .i64 ((n / 4 ^ (size - k) : Nat) : Int)] 3, blk Bs [.slice (some ⟨b, 0, none⟩) size size] 23]) [falseA] (fun k => [(6, .int .i64 (k : Int)), (5, .pointer (some ⟨p5, 0, none⟩)), (2, .pointer (some ⟨p2, 0, none⟩))]) ()
  case hg => rfl
  case hps => rfl
  case hlen => exact fun k => rfl
  case hF => exact fun k _ W _ s => ⟨s.cell (.tail _ (.tail _ (.tail _ (.head _)))) rfl, fun j hj hlt => s.cell (.head _) (by subst hj; rw [tab_get hlt]; unfold dpart; rw [if_neg (by omega)])⟩
  case hI => trivial
  case ho => ((try dsimp only); (first | exact outs_au | fail))
  case hm => kernel_rfl
  case hka => rfl
  case hkb => rfl
  case hassign =>
    intro k A
    try dsimp only [putSl]
    repeat' first
      | (refine J.qv ?_; (with_reducible apply exq); focus (first
        | ((with_reducible apply Qv.shr); exact rfl; exact rfl; (first | decide | omega); exact shr2 hk)
        | ((with_reducible apply Qv.andE); exact rfl; exact rfl; exact and3 (Nat.lt_of_le_of_lt (hdv _) (by omega)))
        | ((with_reducible apply Qv.indexBlk (b := b)); exact rfl; exact rfl; (constructor <;> omega); exact rfl)))
      | ((with_reducible apply J.makeSlice (len := size)); exact rfl; exact rfl; exact rfl; exact rfl; exact rfl; omega; decide; intro _)
      | ((with_reducible apply J.store1); exact rfl; exact rfl; exact rfl; (repeat (first | with_reducible exact Upd.here | with_reducible apply Upd.there)); exact tab_put (k := k) (by simp) hk; (rw [tab_length]; omega))
      | ((with_reducible apply J.iterB (backward_int _ _ _)); exact rfl; exact rfl; intro _)
      | refine J.one ?_
      | refine J.loudS ?_
      | (refine J.loudQ ?_; intro _ _)
      | (refine J.loudB ?_; intro _)
      | (with_reducible apply J.list)
      | ((with_reducible apply J.gsplit); exact rfl; exact rfl)
      | ((with_reducible first | apply J.cond | apply JC.cond); exact rfl)
      | (intro h; exfalso; fail)
      | (intro h; (try simp only [decide_eq_true_eq, decide_eq_false_iff_not, beq_iff_eq, beq_eq_false_iff_ne, Bool.not_eq_true', Bool.not_eq_false', bne_iff_ne, bne_eq_false_iff_eq, ne_eq, ge_iff_le, gt_iff_lt] at h))
      | (with_reducible apply J.gave')
      | ((with_reducible apply J.kept'); rotate_left; (first | exact outs_au | fail))
    all_goals ((try dsimp only); apply J.stE; ((try dsimp only); repeat (first | exact sub.nil _ | (refine sub.consE rfl ?_ ?_; (first | with_reducible rfl | (fail) | rfl)))))
  case hbody =>
    rintro ll D rc k ⟨⟩ hk _
    try dsimp only at *
    repeat' first
      | (refine J.qv ?_; (with_reducible apply exq); focus (first
        | ((with_reducible apply Qv.shr); exact rfl; exact rfl; (first | decide | omega); exact shr2 hk)
        | ((with_reducible apply Qv.andE); exact rfl; exact rfl; exact and3 (Nat.lt_of_le_of_lt (hdv _) (by omega)))
        | ((with_reducible apply Qv.indexBlk (b := b)); exact rfl; exact rfl; (constructor <;> omega); exact rfl)))
      | ((with_reducible apply J.makeSlice (len := size)); exact rfl; exact rfl; exact rfl; exact rfl; exact rfl; omega; decide; intro _)
      | ((with_reducible apply J.store1); exact rfl; exact rfl; exact rfl; (repeat (first | with_reducible exact Upd.here | with_reducible apply Upd.there)); exact tab_put (k := k) (by simp) hk; (rw [tab_length]; omega))
      | ((with_reducible apply J.iterB (backward_int _ _ _)); exact rfl; exact rfl; intro _)
      | refine J.one ?_
      | refine J.loudS ?_
      | (refine J.loudQ ?_; intro _ _)
      | (refine J.loudB ?_; intro _)
      | (with_reducible apply J.list)
      | ((with_reducible apply J.gsplit); exact rfl; exact rfl)
      | ((with_reducible first | apply J.cond | apply JC.cond); exact rfl)
      | (intro h; exfalso; fail)
      | (intro h; (try simp only [decide_eq_true_eq, decide_eq_false_iff_not, beq_iff_eq, beq_eq_false_iff_ne, Bool.not_eq_true', Bool.not_eq_false', bne_iff_ne, bne_eq_false_iff_eq, ne_eq, ge_iff_le, gt_iff_lt] at h))
      | (with_reducible apply J.gave')
      | ((with_reducible apply J.kept'); rotate_left; (first | exact outs_au | fail))
    all_goals
      first
      | (rw [dpart_put hk]
         apply J.lvN () trivial
         (dsimp only [List.cons_append, List.nil_append]; (first | exact outs_au | fail)))
      | (trace_state; fail)
  case hdone =>
    rintro ⟨⟩ _ D
    try dsimp only at *
    repeat' first
      | (refine J.qv ?_; (with_reducible apply exq); focus (first
        | ((with_reducible apply Qv.shr); exact rfl; exact rfl; (first | decide | omega); exact shr2 hk)
        | ((with_reducible apply Qv.andE); exact rfl; exact rfl; exact and3 (Nat.lt_of_le_of_lt (hdv _) (by omega)))
        | ((with_reducible apply Qv.indexBlk (b := b)); exact rfl; exact rfl; (constructor <;> omega); exact rfl)))
      | ((with_reducible apply J.makeSlice (len := size)); exact rfl; exact rfl; exact rfl; exact rfl; exact rfl; omega; decide; intro _)
      | ((with_reducible apply J.store1); exact rfl; exact rfl; exact rfl; (repeat (first | with_reducible exact Upd.here | with_reducible apply Upd.there)); exact tab_put (k := k) (by simp) hk; (rw [tab_length]; omega))
      | ((with_reducible apply J.iterB (backward_int _ _ _)); exact rfl; exact rfl; intro _)
      | refine J.one ?_
      | refine J.loudS ?_
      | (refine J.loudQ ?_; intro _ _)
      | (refine J.loudB ?_; intro _)
      | (with_reducible apply J.list)
      | ((with_reducible apply J.gsplit); exact rfl; exact rfl)
      | ((with_reducible first | apply J.cond | apply JC.cond); exact rfl)
      | (intro h; exfalso; fail)
      | (intro h; (try simp only [decide_eq_true_eq, decide_eq_false_iff_not, beq_iff_eq, beq_eq_false_iff_ne, Bool.not_eq_true', Bool.not_eq_false', bne_iff_ne, bne_eq_false_iff_eq, ne_eq, ge_iff_le, gt_iff_lt] at h))
      | (with_reducible apply J.gave')
      | ((with_reducible apply J.kept'); rotate_left; (first | exact outs_au | fail))
    all_goals
      first
      | (exact J.freshBlk (by (repeat (first | with_reducible exact Out.here | with_reducible apply Out.there))) (by rw [sp_tab]; refine tab_same fun j hj => ?_; unfold dpart; rw [if_pos (Nat.zero_le _)]) (by rw [ncs_length, sp_length]; omega) (by simp only [maxLen]; omega))
      | (trace_state; fail)
  case hstop =>
    intro D
    exact J.absurd_ (.there .here)
/-- A text's digits. -/
def dg1 (l : List UInt8) : List Nat := sp (be ((sha l).take 3)) 12
def dgs (l : List UInt8) : List Nat := dg1 l ++ sp (36 - (dg1 l).sum) 3
theorem dgs_length (l : List UInt8) : (dgs l).length = 15 := by simp [dgs, dg1, sp_length]
theorem dgs_le {l : List UInt8} {x : Nat} (h : x ∈ dgs l) : x ≤ 3 := by
  simp only [dgs, List.mem_append] at h
  rcases h with h | h <;> exact sp_le h
theorem be3 (l : List UInt8) : be ((sha l).take 3) < 16777216 := by
  have h := be_lt ((sha l).take 3)
  rw [List.length_take, sha_length] at h
  exact h
theorem digits_ (ao : Option Addr) (n cap : Nat) (l : List UInt8) (w : World) (hw : Rd w ao (bcs l) ∧ n = l.length ∧ l.length ≤ 1099511627776) : CSpec Tryz.prog 175 [.slice ao n cap] [] w (Fresh 3 1 15 (ncs (dgs l)) []) := by
  obtain ⟨hr, rfl, hl⟩ := hw
  have hb := be3 l
  refine spec_own0 Tryz.func175 rfl Tryz.ntmps175 rfl (l0 := [(0, .slice ao l.length cap)]) rfl ?_
  repeat' first
    | (refine J.qv ?_; (with_reducible apply exq); focus (first
      | ((with_reducible apply Qv.sliceTo (k := 3)); exact rfl; exact rfl; exact rfl; omega)))
    | ((with_reducible apply J.freshR (sum_ _ _ _ l)); exact rfl; exact rfl; (focus ((refine RH.and (RH.old hr) (RH.of ⟨rfl, hl⟩)))); intro _ _)
    | ((with_reducible apply J.givesR (int_ _ _ _ ((sha l).take 3))); exact rfl; exact rfl; focus ((refine RH.and (RH.take (RH.row (by (first | exact in_au | fail)))) (RH.of ⟨?_, ?_, ?_⟩) <;> first | omega | (rw [List.length_take, sha_length]; omega))))
    | ((with_reducible apply J.freshR (spread_ (be ((sha l).take 3)) 12)); exact rfl; exact rfl; (focus ((refine RH.of ⟨?_, ?_⟩ <;> omega))); intro _ _)
    | refine J.one ?_
    | refine J.loudS ?_
    | (refine J.loudQ ?_; intro _ _)
    | (refine J.loudB ?_; intro _)
    | (with_reducible apply J.list)
    | ((with_reducible apply J.gsplit); exact rfl; exact rfl)
    | ((with_reducible first | apply J.cond | apply JC.cond); exact rfl)
    | (intro h; exfalso; fail)
    | (intro h; (try simp only [decide_eq_true_eq, decide_eq_false_iff_not, beq_iff_eq, beq_eq_false_iff_ne, Bool.not_eq_true', Bool.not_eq_false', bne_iff_ne, bne_eq_false_iff_eq, ne_eq, ge_iff_le, gt_iff_lt] at h))
    | (with_reducible apply J.gave')
    | ((with_reducible apply J.kept'); rotate_left; (first | exact outs_au | fail))
  rename_i q hq
  rw [show sp (be ((sha l).take 3)) 12 = dg1 l from rfl]
  apply J.loopI (σ := Nat) (I := fun s => (s ≤ 12)) (L := fun s => [(3, .slice q.1 12 q.2), (12, .slice q.1 12 q.2), (13, .int .i64 12), (14, .int .i64 (s : Int)), (4, .int .i64 ((36 - ((dg1 l).take s).sum : Nat) : Int))]) (HH := fun s => [row (.slice q.1 12 q.2) 3 1 12 (ncs (dg1 l))]) (m := fun s => 12 - s) (s0 := 0)
  · ((try dsimp only); (exact Nat.zero_le _))
  · ((try dsimp only); repeat (first | exact sub.nil _ | (refine sub.consE rfl ?_ ?_; (first | with_reducible rfl | (fail) | rfl))))
  · ((try dsimp only); (first | exact outs_au | fail))
  rintro i hI
  try dsimp only at hI ⊢
  have hs0 : ((dg1 l).take i).sum ≤ 36 := sum_take_le
  have hs1 : ((dg1 l).take (i + 1)).sum ≤ 36 := sum_take_le
  have hln : (dg1 l).length = 12 := sp_length _ _
  have hx2 : ∀ x, (dg1 l)[i]? = some x → ((dg1 l).take (i + 1)).sum = ((dg1 l).take i).sum + x := fun x h => sum_take h
  obtain ⟨x, hx⟩ : ∃ x, i < 12 → (dg1 l)[i]? = some x := by
    by_cases h : i < 12
    · exact ⟨(dg1 l)[i]'(by omega), fun _ => List.getElem?_eq_getElem _⟩
    · exact ⟨0, fun h' => absurd h' h⟩
  rcases Nat.lt_or_ge i 12 with hlt | hge
  · have hx := hx hlt
    have hx2 := hx2 x hx
    have hx3 : x ≤ 3 := sp_le (List.mem_of_getElem? hx)
    repeat' first
      | (refine J.qv ?_; (with_reducible apply exq); focus (first
        | ((with_reducible apply Qv.sub); exact rfl; exact rfl; exact wr64 (z := ((36 - ((dg1 l).take (i + 1)).sum : Nat) : Int)) (by omega) (by omega) (by omega))))
      | (refine J.qr ?_; (with_reducible apply exq); focus (first
        | ((with_reducible apply Qr.indexRd (k := i) (C := ncs (dg1 l))); exact rfl; exact rfl; exact rfl; (first | omega | (rw [ncs_length, dg1, sp_length]; omega)); exact RH.row (by (first | exact in_au | fail)); (first | omega | (rw [ncs_length, dg1, sp_length]; omega)))
        | ((with_reducible apply Qr.rd1 (C := ncs (dg1 l))); exact rfl; exact RH.row (by (first | exact in_au | fail)); (rw [Nat.mul_one]; exact ncs_get hx))))
      | ((with_reducible apply J.appendR (news := ncs (sp (36 - ((dg1 l).take 12).sum) 3))); exact rfl; exact rfl; (repeat (first | with_reducible exact Out.here | with_reducible apply Out.there)); exact rfl; exact RH.row (by (first | exact in_au | fail)); (rw [ncs_length, sp_length]); exact ncs_ones _; exact rfl; exact rfl; (simp only [maxLen]; omega); omega; intro _ _)
      | ((with_reducible apply J.freshR (spread_ (36 - ((dg1 l).take 12).sum) 3)); exact rfl; exact rfl; (focus ((refine RH.of ⟨?_, ?_⟩ <;> omega))); intro _ _)
      | refine J.one ?_
      | refine J.loudS ?_
      | (refine J.loudQ ?_; intro _ _)
      | (refine J.loudB ?_; intro _)
      | (with_reducible apply J.list)
      | ((with_reducible apply J.gsplit); exact rfl; exact rfl)
      | ((with_reducible first | apply J.cond | apply JC.cond); exact rfl)
      | (intro h; exfalso; (first | (simp at h; done) | (simp at h; omega) | omega))
      | (intro h; (try simp only [decide_eq_true_eq, decide_eq_false_iff_not, beq_iff_eq, beq_eq_false_iff_ne, Bool.not_eq_true', Bool.not_eq_false', bne_iff_ne, bne_eq_false_iff_eq, ne_eq, ge_iff_le, gt_iff_lt] at h))
      | (with_reducible apply J.gave')
      | ((with_reducible apply J.kept'); rotate_left; (first | exact outs_au | fail))
    all_goals
      first
      | (apply J.againI (s := i) (s' := (i + 1)); (focus (omega)); (focus ((try dsimp only); (show i + 1 ≤ 12; omega))); (focus (((try dsimp only); repeat (first | exact sub.nil _ | (refine sub.consE rfl ?_ ?_; (first | with_reducible rfl | ((focus (congr 1; omega))) | rfl)))))); ((try dsimp only); (first | exact outs_au | fail)))
      | (trace_state; fail)
  · obtain rfl : i = 12 := by omega
    repeat' first
      | (refine J.qv ?_; (with_reducible apply exq); focus (first
        | ((with_reducible apply Qv.sub); exact rfl; exact rfl; exact wr64 (z := ((36 - ((dg1 l).take (i + 1)).sum : Nat) : Int)) (by omega) (by omega) (by omega))))
      | (refine J.qr ?_; (with_reducible apply exq); focus (first
        | ((with_reducible apply Qr.indexRd (k := i) (C := ncs (dg1 l))); exact rfl; exact rfl; exact rfl; (first | omega | (rw [ncs_length, dg1, sp_length]; omega)); exact RH.row (by (first | exact in_au | fail)); (first | omega | (rw [ncs_length, dg1, sp_length]; omega)))
        | ((with_reducible apply Qr.rd1 (C := ncs (dg1 l))); exact rfl; exact RH.row (by (first | exact in_au | fail)); (rw [Nat.mul_one]; exact ncs_get hx))))
      | ((with_reducible apply J.appendR (news := ncs (sp (36 - ((dg1 l).take 12).sum) 3))); exact rfl; exact rfl; (repeat (first | with_reducible exact Out.here | with_reducible apply Out.there)); exact rfl; exact RH.row (by (first | exact in_au | fail)); (rw [ncs_length, sp_length]); exact ncs_ones _; exact rfl; exact rfl; (simp only [maxLen]; omega); omega; intro _ _)
      | ((with_reducible apply J.freshR (spread_ (36 - ((dg1 l).take 12).sum) 3)); exact rfl; exact rfl; (focus ((refine RH.of ⟨?_, ?_⟩ <;> omega))); intro _ _)
      | refine J.one ?_
      | refine J.loudS ?_
      | (refine J.loudQ ?_; intro _ _)
      | (refine J.loudB ?_; intro _)
      | (with_reducible apply J.list)
      | ((with_reducible apply J.gsplit); exact rfl; exact rfl)
      | ((with_reducible first | apply J.cond | apply JC.cond); exact rfl)
      | (intro h; exfalso; (first | (simp at h; done) | (simp at h; omega) | omega))
      | (intro h; (try simp only [decide_eq_true_eq, decide_eq_false_iff_not, beq_iff_eq, beq_eq_false_iff_ne, Bool.not_eq_true', Bool.not_eq_false', bne_iff_ne, bne_eq_false_iff_eq, ne_eq, ge_iff_le, gt_iff_lt] at h))
      | (with_reducible apply J.gave')
      | ((with_reducible apply J.kept'); rotate_left; (first | exact outs_au | fail))
    all_goals
      first
      | (have e : (dg1 l).take 12 = dg1 l := List.take_of_length_le (by omega)
         rw [e]
         ((with_reducible apply J.freshRow); (repeat (first | with_reducible exact Out.here | with_reducible apply Out.there)); exact rfl; exact rfl; exact (ncs_append _ _).symm))
      | (trace_state; fail)
/-- So many steps. -/
def wk (s : List UInt8) : Nat → List UInt8
  | 0 => s
  | k + 1 => short (wk s k)
theorem wk_le {s : List UInt8} {m : Nat} (h : s.length ≤ m) (h8 : 8 ≤ m) : ∀ k, (wk s k).length ≤ m
  | 0 => h
  | k + 1 => by rw [wk, short_length]; exact h8
theorem clamp3 {k : Nat} (h : k ≤ 3) : imin (imax (k : Int) 0) 3 = (k : Int) := by unfold imin imax; split <;> split <;> omega
theorem walk_ (s : List UInt8) (k : Nat) (w : World) (hw : k ≤ 3 ∧ s.length ≤ 1099511627776) : CSpec Tryz.prog 179 [str s, .int .i64 (k : Int)] [] w (Gives (str (wk s k))) := by
  obtain ⟨h3, hl⟩ := hw
  refine spec_own0 Tryz.func179 rfl Tryz.ntmps179 rfl (l0 := [(0, str s), (1, .int .i64 (k : Int))]) rfl ?_
  repeat' first
    | ((with_reducible apply J.givesR (short_ _ _ _ [wk s i])); exact rfl; exact rfl; focus (exact RH.and (RH.sblk (by (first | exact in_au | fail)) (RH.lcons (RH.bbat (by (first | exact in_au | fail))) RH.lnil)) (RH.of ⟨rfl, by simp; omega, by simp⟩)))
    | refine J.one ?_
    | refine J.loudS ?_
    | (refine J.loudQ ?_; intro _ _)
    | (refine J.loudB ?_; intro _)
    | (with_reducible apply J.list)
    | ((with_reducible apply J.gsplit); exact rfl; exact rfl)
    | ((with_reducible first | apply J.cond | apply JC.cond); exact rfl)
    | (intro h; exfalso; (first | (simp at h; done) | (simp at h; omega) | omega))
    | (intro h; (try simp only [decide_eq_true_eq, decide_eq_false_iff_not, beq_iff_eq, beq_eq_false_iff_ne, Bool.not_eq_true', Bool.not_eq_false', bne_iff_ne, bne_eq_false_iff_eq, ne_eq, ge_iff_le, gt_iff_lt] at h))
    | (with_reducible apply J.gave')
    | ((with_reducible apply J.kept'); rotate_left; (first | exact outs_au | fail))
  rw [clamp3 h3]
  apply J.loopI (σ := Nat) (I := fun q => (q ≤ k)) (L := fun q => [(0, str (wk s q)), (7, .int .i64 (k : Int)), (8, .int .i64 (q : Int))]) (HH := fun q => []) (m := fun q => k - q) (s0 := 0)
  · ((try dsimp only); (exact Nat.zero_le _))
  · ((try dsimp only); repeat (first | exact sub.nil _ | (refine sub.consE rfl ?_ ?_; (first | with_reducible rfl | (fail) | rfl))))
  · ((try dsimp only); (first | exact outs_au | fail))
  rintro i hI
  try dsimp only at hI ⊢
  have hwl := wk_le hl (by omega) i
  repeat' first
    | ((with_reducible apply J.givesR (short_ _ _ _ [wk s i])); exact rfl; exact rfl; focus (exact RH.and (RH.sblk (by (first | exact in_au | fail)) (RH.lcons (RH.bbat (by (first | exact in_au | fail))) RH.lnil)) (RH.of ⟨rfl, by simp; omega, by simp⟩)))
    | refine J.one ?_
    | refine J.loudS ?_
    | (refine J.loudQ ?_; intro _ _)
    | (refine J.loudB ?_; intro _)
    | (with_reducible apply J.list)
    | ((with_reducible apply J.gsplit); exact rfl; exact rfl)
    | ((with_reducible first | apply J.cond | apply JC.cond); exact rfl)
    | (intro h; exfalso; (first | (simp at h; done) | (simp at h; omega) | omega))
    | (intro h; (try simp only [decide_eq_true_eq, decide_eq_false_iff_not, beq_iff_eq, beq_eq_false_iff_ne, Bool.not_eq_true', Bool.not_eq_false', bne_iff_ne, bne_eq_false_iff_eq, ne_eq, ge_iff_le, gt_iff_lt] at h))
    | (with_reducible apply J.gave')
    | ((with_reducible apply J.kept'); rotate_left; (first | exact outs_au | fail))
  all_goals
    first
    | (have e0 : i = k := by omega
       subst e0
       rfl)
    | (apply J.againI (s := i) (s' := (i + 1)); (focus (omega)); (focus ((try dsimp only); omega)); (focus (((try dsimp only); repeat (first | exact sub.nil _ | (refine sub.consE rfl ?_ ?_; (first | with_reducible rfl | ((focus (first | (congr 1; omega) | (simp only [List.flatten_cons, List.flatten_nil, List.append_nil]; rfl)))) | rfl)))))); ((try dsimp only); (first | exact outs_au | fail)))
    | (trace_state; fail)
section
variable {c : Cx} {l : TL} {H : List Asrt}
theorem J.batPack {v : Value} {bs : List UInt8} {V : List Value} {L : List (List UInt8)} {H1 H2 : List Asrt} {G : Act → World → Prop} (h1 : Out (bAt v bs) H H1) (h2 : Out (sepA (bsA V L)) H1 H2) (hl : V.length = L.length)
    (K : J c l (sepA (bsA (V ++ [v]) (L ++ [bs])) :: H2) G) : J c l H G := J.mk fun a w s => by
  have s1 := (s.2.2.perm h1.perm).perm (h2.perm.cons _)
  obtain ⟨fp, ⟨f, g, rfl, ha, f', g', rfl, hb, hg⟩, hnd, hi, hf⟩ := s1
  refine K.out a w ⟨s.1, s.2.1, (f' ++ f) ++ g', ⟨f' ++ f, g', rfl, ?_, hg⟩, ?_, ?_, hf⟩
  · have key : ∀ {V : List Value} {L : List (List UInt8)} {f'}, V.length = L.length → Holds (hp w) (bsA V L) f' → Holds (hp w) (bsA (V ++ [v]) (L ++ [bs])) (f' ++ f) := by
      intro V
      induction V with
      | nil =>
        intro L f' hl hh
        cases L with
        | nil =>
          obtain rfl : f' = [] := hh
          exact ⟨f, [], by simp, ha, rfl⟩
        | cons _ _ => simp at hl
      | cons u V ih =>
        intro L f' hl hh
        cases L with
        | nil => simp at hl
        | cons m L =>
          obtain ⟨f1, f2, rfl, h1, h2⟩ := hh
          exact ⟨f1, f2 ++ f, by simp, h1, ih (by simpa using hl) h2⟩
    exact key hl hb
  · have p : (f ++ (f' ++ g')).Perm ((f' ++ f) ++ g') := by
      rw [← List.append_assoc]
      exact List.perm_append_comm.append_right g'
    exact p.nodup_iff.1 hnd
  · intro i hi'
    refine hi i ?_
    simp only [List.mem_append] at hi' ⊢
    rcases hi' with (h | h) | h
    · exact .inr (.inl h)
    · exact .inl h
    · exact .inr (.inr h)
end
/-- Texts as cells. -/
def scs (l : List (List UInt8)) : List Value := l.map str
theorem scs_length (l : List (List UInt8)) : (scs l).length = l.length := by simp [scs]
theorem scs_append (l m : List (List UInt8)) : scs (l ++ m) = scs l ++ scs m := by simp [scs]
theorem scs_get {l : List (List UInt8)} {i : Nat} {x : List UInt8} (h : l[i]? = some x) : (scs l)[i]? = some (str x) := by simp [scs, h]
/-- Each walked the rest. -/
def closedL (P : List (List UInt8)) (F : List Nat) : List (List UInt8) := List.zipWith (fun p d => wk p (3 - d)) P F
theorem closedL_get {P : List (List UInt8)} {F : List Nat} {i d : Nat} {p : List UInt8} (h1 : P[i]? = some p) (h2 : F[i]? = some d) : (closedL P F)[i]? = some (wk p (3 - d)) := by
  unfold closedL
  rw [List.getElem?_zipWith, h1, h2]
theorem closedL_length {P : List (List UInt8)} {F : List Nat} (h : F.length = P.length) : (closedL P F).length = P.length := by simp [closedL, h]
theorem take_snoc {α : Type} {L : List α} {i : Nat} {x : α} (h : L[i]? = some x) : L.take (i + 1) = L.take i ++ [x] := by
  rw [List.take_add_one, h]
  rfl
theorem flat_max {m : Nat} : ∀ {L : List (List UInt8)}, (∀ x, x ∈ L → x.length ≤ m) → L.flatten.length ≤ m * L.length
  | [], _ => by simp
  | a :: L, h => by
    have h1 := flat_max (L := L) fun x hx => h x (by simp [hx])
    have h2 := h a (by simp)
    simp only [List.flatten_cons, List.length_append, List.length_cons, Nat.mul_add, Nat.mul_one]
    omega
theorem closedL_le {P : List (List UInt8)} {F : List Nat} (h : ∀ p, p ∈ P → p.length ≤ 8) : ∀ x, x ∈ closedL P F → x.length ≤ 8 := by
  intro x hx
  unfold closedL at hx
  obtain ⟨i, hi, e⟩ := List.getElem_of_mem hx
  rw [List.getElem_zipWith] at e
  subst e
  exact wk_le (h _ (List.getElem_mem _)) (Nat.le_refl _) _
theorem closed_ (ao : Option Addr) (n cap : Nat) (P : List (List UInt8)) (aof : Option Addr) (m capf : Nat) (F : List Nat) (w : World) (hw : (Rd w ao (scs P) ∧ Rd w aof (ncs F)) ∧ n = P.length ∧ m = F.length ∧ F.length = P.length ∧ (∀ x, x ∈ F → x ≤ 3) ∧ (∀ p, p ∈ P → p.length ≤ 8) ∧ P.length ≤ 1000) : CSpec Tryz.prog 174 [.slice ao n cap, .slice aof m capf] [] w (Gives (str (short (closedL P F).flatten))) := by
  obtain ⟨⟨hP, hF⟩, rfl, rfl, hl, h3, h8, hm⟩ := hw
  have hcl := closedL_length hl
  have hfm := flat_max (closedL_le (F := F) h8)
  refine spec_own0 Tryz.func174 rfl Tryz.ntmps174 rfl (l0 := [(0, .slice ao P.length cap), (1, .slice aof F.length capf)]) rfl ?_
  repeat' first
    | refine J.one ?_
    | refine J.loudS ?_
    | (refine J.loudQ ?_; intro _ _)
    | (refine J.loudB ?_; intro _)
    | (with_reducible apply J.list)
    | ((with_reducible apply J.gsplit); exact rfl; exact rfl)
    | ((with_reducible first | apply J.cond | apply JC.cond); exact rfl)
    | (intro h; exfalso; fail)
    | (intro h; (try simp only [decide_eq_true_eq, decide_eq_false_iff_not, beq_iff_eq, beq_eq_false_iff_ne, Bool.not_eq_true', Bool.not_eq_false', bne_iff_ne, bne_eq_false_iff_eq, ne_eq, ge_iff_le, gt_iff_lt] at h))
    | (with_reducible apply J.gave')
    | ((with_reducible apply J.kept'); rotate_left; (first | exact outs_au | fail))
  refine J.nilRow 93 1 ?_
  refine J.packNil ?_
  rw [show ([] : List (List UInt8)) = (closedL P F).take 0 from rfl]
  apply J.loopI (σ := (Nat × (Option Addr × Nat) × List Value)) (I := fun s => (s.1 ≤ P.length ∧ s.2.2.length = s.1)) (L := fun s => [(1, .slice aof F.length capf), (8, .slice ao P.length cap), (9, .int .i64 (P.length : Int)), (10, .int .i64 (s.1 : Int)), (5, .slice s.2.1.1 s.1 s.2.1.2)]) (HH := fun s => [row (.slice s.2.1.1 s.1 s.2.1.2) 93 1 s.1 s.2.2, sepA (bsA s.2.2 ((closedL P F).take s.1))]) (m := fun s => P.length - s.1) (s0 := (0, (none, 0), []))
  · ((try dsimp only); (exact ⟨Nat.zero_le _, rfl⟩))
  · ((try dsimp only); repeat (first | exact sub.nil _ | (refine sub.consE rfl ?_ ?_; (first | with_reducible rfl | (fail) | rfl))))
  · ((try dsimp only); (first | exact outs_au | fail))
  rintro ⟨i, q, V⟩ ⟨hI, hV⟩
  try dsimp only at *
  rcases Nat.lt_or_ge i P.length with hlt | hge
  · obtain ⟨p, hp⟩ : ∃ p, P[i]? = some p := ⟨_, List.getElem?_eq_getElem hlt⟩
    obtain ⟨d, hd⟩ : ∃ d, F[i]? = some d := ⟨_, List.getElem?_eq_getElem (by omega)⟩
    have hd3 := h3 d (List.mem_of_getElem? hd)
    have hp8 := h8 p (List.mem_of_getElem? hp)
    have hts := take_snoc (closedL_get hp hd)
    have htl : ((closedL P F).take i).length = i := by rw [List.length_take]; omega
    repeat' first
      | (refine J.qv ?_; (with_reducible apply exq); focus (first
        | ((with_reducible apply Qv.sub); exact rfl; exact rfl; exact wr64 (z := ((3 - d : Nat) : Int)) (by omega) (by omega) (by omega))))
      | (refine J.qr ?_; (with_reducible apply exq); focus (first
        | ((with_reducible apply Qr.indexRd (k := i) (C := scs P)); exact rfl; exact rfl; exact rfl; (first | omega | (rw [scs_length]; omega)); exact RH.old hP; (first | omega | (rw [scs_length]; omega)))
        | ((with_reducible apply Qr.rd1 (C := scs P)); exact rfl; exact RH.old hP; (rw [Nat.mul_one]; exact scs_get hp))
        | ((with_reducible apply Qr.indexRd (k := i) (C := ncs F)); exact rfl; exact rfl; exact rfl; (first | omega | (rw [ncs_length]; omega)); exact RH.old hF; (first | omega | (rw [ncs_length]; omega)))
        | ((with_reducible apply Qr.rd1 (C := ncs F)); exact rfl; exact RH.old hF; (rw [Nat.mul_one]; exact ncs_get hd))))
      | ((with_reducible apply J.appendR (news := [_])); exact rfl; exact rfl; (repeat (first | with_reducible exact Out.here | with_reducible apply Out.there)); exact rfl; exact RH.blk0 (by (first | exact in_au | fail)); exact rfl; exact rfl; exact rfl; exact rfl; (simp only [maxLen]; omega); omega; intro _ _)
      | ((with_reducible apply J.givesR (walk_ p (3 - d))); exact rfl; exact rfl; focus (refine RH.of ⟨?_, ?_⟩ <;> omega))
      | refine J.one ?_
      | refine J.loudS ?_
      | (refine J.loudQ ?_; intro _ _)
      | (refine J.loudB ?_; intro _)
      | (with_reducible apply J.list)
      | ((with_reducible apply J.gsplit); exact rfl; exact rfl)
      | ((with_reducible first | apply J.cond | apply JC.cond); exact rfl)
      | (intro h; exfalso; (first | (simp at h; done) | (simp at h; omega) | omega))
      | (intro h; (try simp only [decide_eq_true_eq, decide_eq_false_iff_not, beq_iff_eq, beq_eq_false_iff_ne, Bool.not_eq_true', Bool.not_eq_false', bne_iff_ne, bne_eq_false_iff_eq, ne_eq, ge_iff_le, gt_iff_lt] at h))
      | (with_reducible apply J.gave')
      | ((with_reducible apply J.kept'); rotate_left; (first | exact outs_au | fail))
    all_goals
      (rename_i q1 _ b q2 _
       apply J.batPack (V := V) (L := (closedL P F).take i)
       · (repeat (first | with_reducible exact Out.here | with_reducible apply Out.there))
       · (repeat (first | with_reducible exact Out.here | with_reducible apply Out.there))
       · omega
       rw [← hts]
       (apply J.againI (s := (i, q, V)) (s' := (i + 1, q2, V ++ [.slice (some ⟨q1.1, 0, none⟩) (wk p (3 - d)).length q1.2])); (focus (omega)); (focus ((try dsimp only); (refine ⟨?_, ?_⟩ <;> first | omega | (simp; omega) | (show i + 1 ≤ P.length; omega)))); (focus (((try dsimp only); repeat (first | exact sub.nil _ | (refine sub.consE rfl ?_ ?_; (first | with_reducible rfl | ((focus (congr 1; omega))) | rfl)))))); ((try dsimp only); (first | exact outs_au | fail))))
  · obtain rfl : i = P.length := by omega
    have htk : (closedL P F).take P.length = closedL P F := List.take_of_length_le (by omega)
    rw [htk]
    repeat' first
      | ((with_reducible apply J.givesR (short_ _ _ _ (closedL P F))); exact rfl; exact rfl; (focus (refine RH.and (RH.srow (by (first | exact in_au | fail)) (RH.lbs (by (first | exact in_au | fail)) ?_)) (RH.of ⟨?_, ?_, ?_⟩) <;> omega)))
      | refine J.one ?_
      | refine J.loudS ?_
      | (refine J.loudQ ?_; intro _ _)
      | (refine J.loudB ?_; intro _)
      | (with_reducible apply J.list)
      | ((with_reducible apply J.gsplit); exact rfl; exact rfl)
      | ((with_reducible first | apply J.cond | apply JC.cond); exact rfl)
      | (intro h; exfalso; (first | (simp at h; done) | (simp at h; omega) | omega))
      | (intro h; (try simp only [decide_eq_true_eq, decide_eq_false_iff_not, beq_iff_eq, beq_eq_false_iff_ne, Bool.not_eq_true', Bool.not_eq_false', bne_iff_ne, bne_eq_false_iff_eq, ne_eq, ge_iff_le, gt_iff_lt] at h))
      | (with_reducible apply J.gave')
      | ((with_reducible apply J.kept'); rotate_left; (first | exact outs_au | fail))
    all_goals
      first
      | rfl
      | (trace_state; fail)
/-- Which is the first one; -1: none. -/
def findI (p : Nat → Bool) (N : Nat) : Int := match (List.range N).find? p with | some i => (i : Int) | none => -1
theorem findI_at {p : Nat → Bool} {N i : Nat} (hi : i < N) (hp : p i = true) (h0 : ∀ j, j < i → p j = false) : findI p N = (i : Int) := by
  unfold findI
  have e : (List.range N).find? p = some i := by
    rw [List.find?_range_eq_some]
    exact ⟨hp, by simp [hi], fun j hj => by simp [h0 j hj]⟩
  rw [e]
theorem findI_none {p : Nat → Bool} {N : Nat} (h0 : ∀ j, j < N → p j = false) : findI p N = -1 := by
  unfold findI
  have e : (List.range N).find? p = none := by
    rw [List.find?_eq_none]
    intro j hj
    rw [h0 j (by simpa using hj)]
    decide
  rw [e]
theorem findI_lt {p : Nat → Bool} {N : Nat} : findI p N < N := by
  unfold findI
  split
  · rename_i i h
    have := List.mem_of_find?_eq_some h
    simp at this
    omega
  · omega
theorem findI_or {p : Nat → Bool} {N : Nat} : (findI p N = -1 ∧ ∀ j, j < N → p j = false) ∨ ∃ i, i < N ∧ findI p N = (i : Int) ∧ p i = true ∧ ∀ j, j < i → p j = false := by
  by_cases h : ∀ j, j < N → p j = false
  · exact .inl ⟨findI_none h, h⟩
  · right
    have h1 : ∃ j, j < N ∧ p j = true := by
      apply Classical.byContradiction
      intro hn
      apply h
      intro j hj
      cases hb : p j with
      | false => rfl
      | true => exact absurd ⟨j, hj, hb⟩ hn
    have key : ∀ m, (∃ j, j < m ∧ p j = true) → ∃ i, i < m ∧ p i = true ∧ ∀ j, j < i → p j = false := by
      intro m
      induction m with
      | zero => rintro ⟨j, hj, _⟩; omega
      | succ m ih =>
        rintro ⟨j, hj, hpj⟩
        by_cases hm : ∃ j, j < m ∧ p j = true
        · obtain ⟨i, h1, h2, h3⟩ := ih hm
          exact ⟨i, by omega, h2, h3⟩
        · refine ⟨m, by omega, ?_, ?_⟩
          · have : j = m := by
              apply Classical.byContradiction
              intro hne
              exact hm ⟨j, by omega, hpj⟩
            exact this ▸ hpj
          · intro k hk
            cases hb : p k with
            | false => rfl
            | true => exact absurd ⟨k, hk, hb⟩ hm
    obtain ⟨i, h2, h3, h4⟩ := key N h1
    exact ⟨i, h2, findI_at h2 h3 h4, h3, h4⟩
theorem idx_string (ao : Option Addr) (n cap : Nat) (C : List Value) (N fb : Nat) (cs : List Value) (x : Nat → Value) (p : Nat → Bool) [Eng.Enters Tryz.prog fb] (w : World) (hw : Rd w ao C ∧ n = N ∧ C.length = N ∧ N ≤ maxLen ∧ (∀ i, i < N → C[i]? = some (x i)) ∧ ∀ i, i < N → ∀ w2, Fr w [] w2 → CSpec Tryz.prog fb (x i :: cs) [] w2 (Gives (.bool (p i)))) : CSpec Tryz.prog 178 [.slice ao n cap, fnv fb cs] [] w (Gives (.int .i64 (findI p N))) := by
  obtain ⟨hr, rfl, hCl, hm, hC, hp⟩ := hw
  refine spec_own0 Tryz.func178 rfl Tryz.ntmps178 rfl (l0 := [(0, .slice ao n cap), (1, fnv fb cs)]) rfl ?_
  repeat' first
    | refine J.one ?_
    | refine J.loudS ?_
    | (refine J.loudQ ?_; intro _ _)
    | (refine J.loudB ?_; intro _)
    | (with_reducible apply J.list)
    | ((with_reducible apply J.gsplit); exact rfl; exact rfl)
    | ((with_reducible first | apply J.cond | apply JC.cond); exact rfl)
    | (intro h; exfalso; fail)
    | (intro h; (try simp only [decide_eq_true_eq, decide_eq_false_iff_not, beq_iff_eq, beq_eq_false_iff_ne, Bool.not_eq_true', Bool.not_eq_false', bne_iff_ne, bne_eq_false_iff_eq, ne_eq, ge_iff_le, gt_iff_lt] at h))
    | (with_reducible apply J.gave')
    | ((with_reducible apply J.kept'); rotate_left; (first | exact outs_au | fail))
  apply J.loopI (σ := Nat) (I := fun q => (q ≤ n ∧ ∀ j, j < q → p j = false)) (L := fun q => [(0, .slice ao n cap), (1, fnv fb cs), (6, .slice ao n cap), (7, .int .i64 (n : Int)), (8, .int .i64 (q : Int))]) (HH := fun q => []) (m := fun q => n - q) (s0 := 0)
  · ((try dsimp only); (exact ⟨Nat.zero_le _, fun j hj => absurd hj (Nat.not_lt_zero _)⟩))
  · ((try dsimp only); repeat (first | exact sub.nil _ | (refine sub.consE rfl ?_ ?_; (first | with_reducible rfl | (fail) | rfl))))
  · ((try dsimp only); (first | exact outs_au | fail))
  rintro i ⟨hI, hno⟩
  try dsimp only at *
  have hm2 := hm
  simp only [maxLen] at hm2
  rcases Nat.lt_or_ge i n with hlt | hge
  · skip
    repeat' first
      | (refine J.qr ?_; (with_reducible apply exq); focus (first
        | ((with_reducible apply Qr.indexRd (k := i) (C := C)); exact rfl; exact rfl; exact rfl; omega; exact RH.old hr; omega)
        | ((with_reducible apply Qr.rd1 (C := C)); exact rfl; exact RH.old hr; (rw [Nat.mul_one]; exact hC i hlt))))
      | ((with_reducible apply J.callV (f := fb) (cs := cs)); exact rfl; exact rfl; exact rfl; exact fun w2 s2 => hp i hlt w2 s2.fr)
      | refine J.one ?_
      | refine J.loudS ?_
      | (refine J.loudQ ?_; intro _ _)
      | (refine J.loudB ?_; intro _)
      | (with_reducible apply J.list)
      | ((with_reducible apply J.gsplit); exact rfl; exact rfl)
      | ((with_reducible first | apply J.cond | apply JC.cond); exact rfl)
      | (intro h; exfalso; (first | (simp at h; done) | (simp at h; omega) | omega))
      | (intro h; (try simp only [decide_eq_true_eq, decide_eq_false_iff_not, beq_iff_eq, beq_eq_false_iff_ne, Bool.not_eq_true', Bool.not_eq_false', bne_iff_ne, bne_eq_false_iff_eq, ne_eq, ge_iff_le, gt_iff_lt] at h))
      | (with_reducible apply J.gave')
      | ((with_reducible apply J.kept'); rotate_left; (first | exact outs_au | fail))
    all_goals
      first
      | (simp only [retv]; rw [findI_at hlt (by assumption) hno]; done)
      | (apply J.againI (s := i) (s' := (i + 1)); (focus (omega)); (focus ((try dsimp only); exact ⟨by omega, fun j hj => (Nat.lt_or_ge j i).elim (hno j) fun h9 => (show j = i from Nat.le_antisymm (Nat.le_of_lt_succ hj) h9).symm ▸ h⟩)); (focus (((try dsimp only); repeat (first | exact sub.nil _ | (refine sub.consE rfl ?_ ?_; (first | with_reducible rfl | ((focus (congr 1; omega))) | rfl)))))); ((try dsimp only); (first | exact outs_au | fail)))
      | (trace_state; fail)
  · obtain rfl : i = n := by omega
    repeat' first
      | (refine J.qr ?_; (with_reducible apply exq); focus (first
        | ((with_reducible apply Qr.indexRd (k := i) (C := C)); exact rfl; exact rfl; exact rfl; omega; exact RH.old hr; omega)
        | ((with_reducible apply Qr.rd1 (C := C)); exact rfl; exact RH.old hr; (rw [Nat.mul_one]; exact hC i hlt))))
      | ((with_reducible apply J.callV (f := fb) (cs := cs)); exact rfl; exact rfl; exact rfl; exact fun w2 s2 => hp i hlt w2 s2.fr)
      | refine J.one ?_
      | refine J.loudS ?_
      | (refine J.loudQ ?_; intro _ _)
      | (refine J.loudB ?_; intro _)
      | (with_reducible apply J.list)
      | ((with_reducible apply J.gsplit); exact rfl; exact rfl)
      | ((with_reducible first | apply J.cond | apply JC.cond); exact rfl)
      | (intro h; exfalso; (first | (simp at h; done) | (simp at h; omega) | omega))
      | (intro h; (try simp only [decide_eq_true_eq, decide_eq_false_iff_not, beq_iff_eq, beq_eq_false_iff_ne, Bool.not_eq_true', Bool.not_eq_false', bne_iff_ne, bne_eq_false_iff_eq, ne_eq, ge_iff_le, gt_iff_lt] at h))
      | (with_reducible apply J.gave')
      | ((with_reducible apply J.kept'); rotate_left; (first | exact outs_au | fail))
    all_goals
      first
      | (simp only [retv]; rw [findI_none hno]; done)
      | (trace_state; fail)
end Go.Proofs.YtljbedladifgmaaGreat.Ots
namespace Go.Proofs.YtljbedladifgmaaGreat.Mss
open Go Go.RowKit Eng
set_option linter.unusedVariables false
set_option maxRecDepth 100000
set_option linter.unusedSimpArgs false
open Sha Iter Hash Bytes Ots Deal
set_option maxHeartbeats 1000000
open Go.Proofs.YtljbedladifgmaaGreat.Hsum
theorem open1 (s : List UInt8) (w : World) : CSpec Tryz.prog 173 [str s] [] w (Gives (.bool ((s.length : Int) != 8))) := by
  refine spec_of Tryz.func173 rfl Tryz.ntmps173 rfl (l0 := [(0, str s)]) rfl ?_
  intro fp
  repeat' first
    | refine J.one ?_
    | refine J.loudS ?_
    | (refine J.loudQ ?_; intro _ _)
    | (refine J.loudB ?_; intro _)
    | (with_reducible apply J.list)
    | ((with_reducible apply J.gsplit); exact rfl; exact rfl)
    | ((with_reducible first | apply J.cond | apply JC.cond); exact rfl)
    | (intro h; exfalso; (first | (simp at h; done) | (simp at h; omega)))
    | (intro h; (try simp only [decide_eq_true_eq, decide_eq_false_iff_not, beq_iff_eq, beq_eq_false_iff_ne, Bool.not_eq_true', Bool.not_eq_false', bne_iff_ne, bne_eq_false_iff_eq, ne_eq, ge_iff_le, gt_iff_lt] at h))
    | (with_reducible apply J.gave')
    | ((with_reducible apply J.kept'); rotate_left; (first | exact outs_au | fail))
  all_goals (rfl)
/-- Is one of them of another size? -/
abbrev oddP (P : List (List UInt8)) : Nat → Bool := fun i => ((P.getD i []).length : Int) != 8
theorem oddP_get {P : List (List UInt8)} {i : Nat} (hi : i < P.length) : (scs P)[i]? = some (str (P.getD i [])) := by
  apply scs_get
  rw [List.getD_eq_getElem?_getD, List.getElem?_eq_getElem hi]
  rfl
/-- All are of eight octets. -/
def all8 (P : List (List UInt8)) : Prop := ∀ p, p ∈ P → p.length = 8
theorem all8_of {P : List (List UInt8)} (h : ¬ findI (oddP P) P.length ≥ 0) : all8 P := by
  rcases findI_or (p := oddP P) (N := P.length) with ⟨_, h1⟩ | ⟨i, _, h1, _⟩
  · intro p hp
    obtain ⟨i, hi, e⟩ := List.getElem_of_mem hp
    have h2 := h1 i hi
    simp only [oddP, List.getD_eq_getElem?_getD, List.getElem?_eq_getElem hi, e] at h2
    simp at h2
    omega
  · omega
theorem not_all8 {P : List (List UInt8)} (h : findI (oddP P) P.length ≥ 0) : ¬ all8 P := by
  rcases findI_or (p := oddP P) (N := P.length) with ⟨h1, _⟩ | ⟨i, hi, _, h1, _⟩
  · omega
  · intro hall
    have h2 := hall (P[i]'hi) (List.getElem_mem _)
    simp only [oddP, List.getD_eq_getElem?_getD, List.getElem?_eq_getElem hi] at h1
    simp at h1
    omega
open Classical in
/-- What is opened. -/
noncomputable def openF (T : List UInt8) (P : List (List UInt8)) : List UInt8 := if P.length = 15 ∧ all8 P then short (closedL P (dgs T)).flatten else []
theorem contains_ (ao : Option Addr) (n cap : Nat) (P : List (List UInt8)) (w : World) (hw : Rd w ao (scs P) ∧ n = P.length ∧ P.length ≤ 1000) : CSpec Tryz.prog 172 [.slice ao n cap, fnv 173 []] [] w (Gives (.bool (decide (findI (oddP P) P.length ≥ 0)))) := by
  obtain ⟨hr, rfl, hm⟩ := hw
  refine spec_own0 Tryz.func172 rfl Tryz.ntmps172 rfl (l0 := [(0, .slice ao P.length cap), (1, fnv 173 [])]) rfl ?_
  repeat' first
    | ((with_reducible apply J.givesR (idx_string _ _ _ (scs P) P.length 173 [] (fun i => str (P.getD i [])) (oddP P))); exact rfl; exact rfl; focus (exact fun w2 s2 => ⟨RH.old hr w2 s2, rfl, scs_length P, by simp only [maxLen]; omega, fun i hi => oddP_get hi, fun i hi w3 _ => open1 _ w3⟩))
    | refine J.one ?_
    | refine J.loudS ?_
    | (refine J.loudQ ?_; intro _ _)
    | (refine J.loudB ?_; intro _)
    | (with_reducible apply J.list)
    | ((with_reducible apply J.gsplit); exact rfl; exact rfl)
    | ((with_reducible first | apply J.cond | apply JC.cond); exact rfl)
    | (intro h; exfalso; fail)
    | (intro h; (try simp only [decide_eq_true_eq, decide_eq_false_iff_not, beq_iff_eq, beq_eq_false_iff_ne, Bool.not_eq_true', Bool.not_eq_false', bne_iff_ne, bne_eq_false_iff_eq, ne_eq, ge_iff_le, gt_iff_lt] at h))
    | (with_reducible apply J.gave')
    | ((with_reducible apply J.kept'); rotate_left; (first | exact outs_au | fail))
  all_goals (rfl)
theorem open_ (aot : Option Addr) (nt capt : Nat) (T : List UInt8) (ao : Option Addr) (n cap : Nat) (P : List (List UInt8)) (w : World) (hw : (Rd w aot (bcs T) ∧ Rd w ao (scs P)) ∧ nt = T.length ∧ n = P.length ∧ T.length ≤ 1099511627776 ∧ P.length ≤ 1000) : CSpec Tryz.prog 168 [.slice aot nt capt, .slice ao n cap] [] w (Gives (str (openF T P))) := by
  obtain ⟨⟨hT, hP⟩, rfl, rfl, hl, hm⟩ := hw
  have hdl := dgs_length T
  refine spec_own0 Tryz.func168 rfl Tryz.ntmps168 rfl (l0 := [(0, .slice aot T.length capt), (1, .slice ao P.length cap)]) rfl ?_
  repeat' first
    | ((with_reducible apply J.givesR (contains_ _ _ _ P)); exact rfl; exact rfl; focus (exact RH.and (RH.old hP) (RH.of ⟨rfl, hm⟩)))
    | ((with_reducible apply J.freshR (digits_ _ _ _ T)); exact rfl; exact rfl; (focus (exact RH.and (RH.old hT) (RH.of ⟨rfl, hl⟩))); intro _ _)
    | ((with_reducible apply J.givesR (closed_ _ _ _ P _ _ _ (dgs T))); exact rfl; exact rfl; focus (exact RH.and (RH.and (RH.old hP) (RH.row (by (first | exact in_au | fail)))) (RH.of ⟨rfl, by omega, by omega, fun x hx => dgs_le hx, fun p hp => Nat.le_of_eq (all8_of (by assumption) p hp), hm⟩)))
    | refine J.one ?_
    | refine J.loudS ?_
    | (refine J.loudQ ?_; intro _ _)
    | (refine J.loudB ?_; intro _)
    | (with_reducible apply J.list)
    | ((with_reducible apply J.gsplit); exact rfl; exact rfl)
    | ((with_reducible first | apply J.cond | apply JC.cond); exact rfl)
    | (intro h; exfalso; (first | (simp at h; done) | (simp at h; omega) | omega))
    | (intro h; (try simp only [decide_eq_true_eq, decide_eq_false_iff_not, beq_iff_eq, beq_eq_false_iff_ne, Bool.not_eq_true', Bool.not_eq_false', bne_iff_ne, bne_eq_false_iff_eq, ne_eq, ge_iff_le, gt_iff_lt] at h))
    | (with_reducible apply J.gave')
    | ((with_reducible apply J.kept'); rotate_left; (first | exact outs_au | fail))
  all_goals
    first
    | (have e : openF T P = [] := by unfold openF; exact if_neg (fun hc => absurd hc.1 (by omega))
       rw [e]
       rfl)
    | (have e : openF T P = [] := by unfold openF; exact if_neg (fun hc => not_all8 (by assumption) hc.2)
       rw [e]
       rfl)
    | (have e : openF T P = short (closedL P (dgs T)).flatten := by unfold openF; exact if_pos ⟨by omega, all8_of (by assumption)⟩
       rw [e]
       rfl)
    | (trace_state; fail)
theorem join_ (a b : List UInt8) (w : World) (hw : a.length + b.length ≤ 1099511627776) : CSpec Tryz.prog 171 [str a, str b] [] w (Gives (str (short (a ++ b)))) := by
  refine spec_own0 Tryz.func171 rfl Tryz.ntmps171 rfl (l0 := [(0, str a), (1, str b)]) rfl ?_
  repeat' first
    | ((with_reducible apply J.givesR (short_ _ _ _ [a, b])); exact rfl; exact rfl; focus (exact RH.and (RH.sblk (by (first | exact in_au | fail)) (RH.lcons (RH.bbat (by (first | exact in_au | fail))) (RH.lcons (RH.bbat (by (first | exact in_au | fail))) RH.lnil))) (RH.of ⟨rfl, by simp; omega, by simp⟩)))
    | refine J.one ?_
    | refine J.loudS ?_
    | (refine J.loudQ ?_; intro _ _)
    | (refine J.loudB ?_; intro _)
    | (with_reducible apply J.list)
    | ((with_reducible apply J.gsplit); exact rfl; exact rfl)
    | ((with_reducible first | apply J.cond | apply JC.cond); exact rfl)
    | (intro h; exfalso; fail)
    | (intro h; (try simp only [decide_eq_true_eq, decide_eq_false_iff_not, beq_iff_eq, beq_eq_false_iff_ne, Bool.not_eq_true', Bool.not_eq_false', bne_iff_ne, bne_eq_false_iff_eq, ne_eq, ge_iff_le, gt_iff_lt] at h))
    | (with_reducible apply J.gave')
    | ((with_reducible apply J.kept'); rotate_left; (first | exact outs_au | fail))
  all_goals ((first | rfl | (simp [retv]; done) | (simp only [retv, List.flatten_cons, List.flatten_nil, List.append_nil]; rfl)))
/-- A step up. -/
def clst (x : List UInt8 × Nat) (p : List UInt8) : List UInt8 × Nat := (if x.2 % 2 = 0 then short (x.1 ++ p) else short (p ++ x.1), x.2 / 2)
def cls (s : List UInt8) (n : Nat) (L : List (List UInt8)) : List UInt8 × Nat := L.foldl clst (s, n)
theorem cls_snoc (s : List UInt8) (n : Nat) (L : List (List UInt8)) (p : List UInt8) : cls s n (L ++ [p]) = clst (cls s n L) p := by simp [cls]
theorem cls_len {m : Nat} (h8 : 8 ≤ m) : ∀ {L : List (List UInt8)} {s : List UInt8} {n : Nat}, s.length ≤ m → (cls s n L).1.length ≤ m
  | [], _, _, h => h
  | p :: L, s, n, h => by
    show (L.foldl clst (clst (s, n) p)).1.length ≤ m
    unfold clst
    refine cls_len h8 (L := L) ?_
    dsimp only
    split <;> (rw [short_length]; exact h8)
theorem cls_num : ∀ {L : List (List UInt8)} {s : List UInt8} {n : Nat}, (cls s n L).2 ≤ n
  | [], _, n => Nat.le_refl _
  | p :: L, s, n => by
    exact Nat.le_trans (cls_num (L := L) (s := if n % 2 = 0 then short (s ++ p) else short (p ++ s)) (n := n / 2)) (Nat.div_le_self _ _)
theorem and1 {m : Nat} (h : m < 9223372036854775808) : andI .i64 (m : Int) 1 = ((m % 2 : Nat) : Int) := and64_low h 1 (by decide)
theorem shr1 {m : Nat} : ((m : Nat) : Int).fdiv (2 ^ 1) = ((m / 2 : Nat) : Int) := by
  rw [Int.fdiv_eq_ediv_of_nonneg _ (by decide)]
  rfl
theorem climb_ (s : List UInt8) (leaf : Nat) (ao : Option Addr) (n cap : Nat) (L : List (List UInt8)) (w : World) (hw : RdS w ao L ∧ n = L.length ∧ L.length ≤ 1000 ∧ (∀ p, p ∈ L → p.length ≤ 1000) ∧ s.length ≤ 1000 ∧ leaf ≤ 1099511627776) : CSpec Tryz.prog 167 [str s, .int .i64 (leaf : Int), .slice ao n cap] [] w (Gives (str (cls s leaf L).1)) := by
  obtain ⟨⟨V, hV, hL⟩, rfl, hm, hp, hs, hlf⟩ := hw
  have hVl := hL.length
  refine spec_own0 Tryz.func167 rfl Tryz.ntmps167 rfl (l0 := [(0, str s), (1, .int .i64 (leaf : Int)), (2, .slice ao L.length cap)]) rfl ?_
  repeat' first
    | refine J.one ?_
    | refine J.loudS ?_
    | (refine J.loudQ ?_; intro _ _)
    | (refine J.loudB ?_; intro _)
    | (with_reducible apply J.list)
    | ((with_reducible apply J.gsplit); exact rfl; exact rfl)
    | ((with_reducible first | apply J.cond | apply JC.cond); exact rfl)
    | (intro h; exfalso; fail)
    | (intro h; (try simp only [decide_eq_true_eq, decide_eq_false_iff_not, beq_iff_eq, beq_eq_false_iff_ne, Bool.not_eq_true', Bool.not_eq_false', bne_iff_ne, bne_eq_false_iff_eq, ne_eq, ge_iff_le, gt_iff_lt] at h))
    | (with_reducible apply J.gave')
    | ((with_reducible apply J.kept'); rotate_left; (first | exact outs_au | fail))
  apply J.loopI (σ := Nat) (I := fun q => (q ≤ L.length)) (L := fun q => [(0, str (cls s leaf (L.take q)).1), (1, .int .i64 (((cls s leaf (L.take q)).2 : Nat) : Int)), (9, .slice ao L.length cap), (10, .int .i64 (L.length : Int)), (11, .int .i64 (q : Int))]) (HH := fun q => []) (m := fun q => L.length - q) (s0 := 0)
  · ((try dsimp only); (exact Nat.zero_le _))
  · ((try dsimp only); repeat (first | exact sub.nil _ | (refine sub.consE rfl ?_ ?_; (first | with_reducible rfl | (fail) | rfl))))
  · ((try dsimp only); (first | exact outs_au | fail))
  rintro i hI
  try dsimp only at hI ⊢
  have hcn := cls_num (L := L.take i) (s := s) (n := leaf)
  have hcl := cls_len (L := L.take i) (n := leaf) (by omega) hs
  rcases Nat.lt_or_ge i L.length with hlt | hge
  · obtain ⟨p, hl⟩ : ∃ p, L[i]? = some p := ⟨_, List.getElem?_eq_getElem hlt⟩
    obtain ⟨v, hv, ai, ci, rfl, hc, hb⟩ := RdL.get hL hl
    have hpl := hp p (List.mem_of_getElem? hl)
    have hsn : cls s leaf (L.take (i + 1)) = clst (cls s leaf (L.take i)) p := by rw [take_snoc hl, cls_snoc]
    repeat' first
      | (refine J.qv ?_; (with_reducible apply exq); focus (first
        | ((with_reducible apply Qv.andE); exact rfl; exact rfl; exact and1 (by omega))
        | ((with_reducible apply Qv.shr); exact rfl; exact rfl; decide; exact shr1)))
      | (refine J.qr ?_; (with_reducible apply exq); focus (first
        | ((with_reducible apply Qr.indexRd (k := i) (C := V)); exact rfl; exact rfl; exact rfl; omega; exact RH.old hV; omega)
        | ((with_reducible apply Qr.rd1 (C := V)); exact rfl; exact RH.old hV; (rw [Nat.mul_one]; exact hv))
        | ((with_reducible apply Qr.toStr (bs := p)); exact rfl; exact RH.old hb; exact rfl)))
      | ((with_reducible apply J.givesR (join_ _ _)); exact rfl; exact rfl; focus (refine RH.of ?_; omega))
      | refine J.one ?_
      | refine J.loudS ?_
      | (refine J.loudQ ?_; intro _ _)
      | (refine J.loudB ?_; intro _)
      | (with_reducible apply J.list)
      | ((with_reducible apply J.gsplit); exact rfl; exact rfl)
      | ((with_reducible first | apply J.cond | apply JC.cond); exact rfl)
      | (intro h; exfalso; (first | (simp at h; done) | (simp at h; omega) | omega))
      | (intro h; (try simp only [decide_eq_true_eq, decide_eq_false_iff_not, beq_iff_eq, beq_eq_false_iff_ne, Bool.not_eq_true', Bool.not_eq_false', bne_iff_ne, bne_eq_false_iff_eq, ne_eq, ge_iff_le, gt_iff_lt] at h))
      | (with_reducible apply J.gave')
      | ((with_reducible apply J.kept'); rotate_left; (first | exact outs_au | fail))
    all_goals
      first
      | (have e1 : (cls s leaf (L.take (i + 1))).1 = short ((cls s leaf (L.take i)).1 ++ p) := by rw [hsn, clst]; exact if_pos (by omega)
         have e2 : (cls s leaf (L.take (i + 1))).2 = (cls s leaf (L.take i)).2 / 2 := by rw [hsn, clst]
         (apply J.againI (s := i) (s' := (i + 1)); (focus (omega)); (focus ((try dsimp only); (show i + 1 ≤ L.length; omega))); (focus (((try dsimp only); repeat (first | exact sub.nil _ | (refine sub.consE rfl ?_ ?_; (first | with_reducible rfl | ((focus (first | (rw [e1]; done) | (rw [e2]; done) | (congr 1; omega)))) | rfl)))))); ((try dsimp only); (first | exact outs_au | fail))))
      | (have e1 : (cls s leaf (L.take (i + 1))).1 = short (p ++ (cls s leaf (L.take i)).1) := by rw [hsn, clst]; exact if_neg (by omega)
         have e2 : (cls s leaf (L.take (i + 1))).2 = (cls s leaf (L.take i)).2 / 2 := by rw [hsn, clst]
         (apply J.againI (s := i) (s' := (i + 1)); (focus (omega)); (focus ((try dsimp only); (show i + 1 ≤ L.length; omega))); (focus (((try dsimp only); repeat (first | exact sub.nil _ | (refine sub.consE rfl ?_ ?_; (first | with_reducible rfl | ((focus (first | (rw [e1]; done) | (rw [e2]; done) | (congr 1; omega)))) | rfl)))))); ((try dsimp only); (first | exact outs_au | fail))))
      | (trace_state; fail)
  · obtain rfl : i = L.length := by omega
    rw [List.take_length] at *
    repeat' first
      | (refine J.qv ?_; (with_reducible apply exq); focus (first
        | ((with_reducible apply Qv.andE); exact rfl; exact rfl; exact and1 (by omega))
        | ((with_reducible apply Qv.shr); exact rfl; exact rfl; decide; exact shr1)))
      | (refine J.qr ?_; (with_reducible apply exq); focus (first
        | ((with_reducible apply Qr.indexRd (k := i) (C := V)); exact rfl; exact rfl; exact rfl; omega; exact RH.old hV; omega)
        | ((with_reducible apply Qr.rd1 (C := V)); exact rfl; exact RH.old hV; (rw [Nat.mul_one]; exact hv))
        | ((with_reducible apply Qr.toStr (bs := p)); exact rfl; exact RH.old hb; exact rfl)))
      | ((with_reducible apply J.givesR (join_ _ _)); exact rfl; exact rfl; focus (refine RH.of ?_; omega))
      | refine J.one ?_
      | refine J.loudS ?_
      | (refine J.loudQ ?_; intro _ _)
      | (refine J.loudB ?_; intro _)
      | (with_reducible apply J.list)
      | ((with_reducible apply J.gsplit); exact rfl; exact rfl)
      | ((with_reducible first | apply J.cond | apply JC.cond); exact rfl)
      | (intro h; exfalso; (first | (simp at h; done) | (simp at h; omega) | omega))
      | (intro h; (try simp only [decide_eq_true_eq, decide_eq_false_iff_not, beq_iff_eq, beq_eq_false_iff_ne, Bool.not_eq_true', Bool.not_eq_false', bne_iff_ne, bne_eq_false_iff_eq, ne_eq, ge_iff_le, gt_iff_lt] at h))
      | (with_reducible apply J.gave')
      | ((with_reducible apply J.kept'); rotate_left; (first | exact outs_au | fail))
    all_goals
      first
      | rfl
      | (trace_state; fail)
/-- The pieces of eight. -/
def pcs (l : List UInt8) (N : Nat) : List (List UInt8) := (List.range N).map fun j => (l.drop (8 * j)).take 8
theorem pcs_length (l : List UInt8) (N : Nat) : (pcs l N).length = N := by simp [pcs]
theorem pcs_succ (l : List UInt8) (N : Nat) : pcs l (N + 1) = pcs l N ++ [(l.drop (8 * N)).take 8] := by simp [pcs, List.range_succ]
theorem pcs_get {l : List UInt8} {N j : Nat} (hj : j < N) : (pcs l N)[j]? = some ((l.drop (8 * j)).take 8) := by simp [pcs, hj]
theorem pcs_8 {l : List UInt8} {N : Nat} (hl : l.length = N * 8) : ∀ p, p ∈ pcs l N → p.length = 8 := by
  intro p hp
  simp only [pcs, List.mem_map, List.mem_range] at hp
  obtain ⟨j, hj, rfl⟩ := hp
  rw [List.length_take, List.length_drop]
  omega
theorem RdL.dropV {w : World} : ∀ {V : List Value} {L : List (List UInt8)} (k : Nat), RdL w V L → RdL w (V.drop k) (L.drop k)
  | _, _, 0, h => h
  | [], [], _ + 1, h => h
  | _ :: _, _ :: _, k + 1, h => RdL.dropV k h.2
theorem RdL.takeV {w : World} : ∀ {V : List Value} {L : List (List UInt8)} (k : Nat), RdL w V L → RdL w (V.take k) (L.take k)
  | _, _, 0, h => by simp [RdL]
  | [], [], _ + 1, h => h
  | _ :: _, _ :: _, k + 1, h => ⟨h.1, RdL.takeV k h.2⟩
/-- A new row of pieces. -/
def FreshS (n : Nat) (L : List (List UInt8)) : Ending → List Asrt → Prop := fun e H => ∃ (q : Option Addr × Nat) (V : List Value), e = .returned (.slice q.1 n q.2) ∧ n ≤ q.2 ∧ V.length = n ∧ H = [row (.slice q.1 n q.2) 93 1 n V, sepA (bsA V L)]
section
variable {P : Program} {c : Cx} {l : TL} {H : List Asrt} {Q : Exit → Act → World → Prop} {X : Act → World → Prop}
variable {ty : TypeId} {pos : String} {af : Array Edge} {d : Nat} {v : Value} {dst : Option Tmp} {mm : Nat}
theorem J.freshSR {f : Nat} [i : Eng.Enters P f] {xs : List Operand} {ts : Array TypeId} {vs : List Value} {n : Nat} {L : List (List UInt8)} {pre : World → Prop} (hS : ∀ w, pre w → CSpec P f vs [] w (FreshS n L)) (hd : Nat.blt d c.n = true) (hx : evs l xs = some vs) (hp : RH c.w0 c.own H pre)
    (K : ∀ (q : Option Addr × Nat) (V : List Value), n ≤ q.2 → V.length = n → J c ((d, .slice q.1 n q.2) :: l) (row (.slice q.1 n q.2) 93 1 n V :: sepA (bsA V L) :: H) X) : J c l H (OW P Q ⟨some d, .call ⟨.value (.func f), xs.toArray, ts⟩, ty, pos, af, none⟩ X) :=
  J.callS hd hx .nil (fun w s => hS w (hp w s)) (fun v H3 ⟨q, V, h1, h2, h3, h4⟩ => by cases h1; subst h4; exact K q V h2 h3) (fun ch H3 ⟨q, V, h1, _⟩ => by cases h1) (fun H3 ⟨q, V, h1, _⟩ => by cases h1)
theorem J.toBytesC {S T E : Nat} [i : Byt P T E] [j : StrT P S] {x : Operand} {bs : List UInt8} (hd : Nat.blt d c.n = true) (hx : ev l x = some (str bs)) (hm : bs.length ≤ maxLen)
    (K : ∀ q : Nat × Nat, bs.length ≤ q.2 ∧ q.2 ≤ maxLen → J c ((d, .slice (some ⟨q.1, 0, none⟩) bs.length q.2) :: l) (bAt (.slice (some ⟨q.1, 0, none⟩) bs.length q.2) bs :: H) X) : J c l H (OW P Q ⟨some d, .convert S T x, ty, pos, af, none⟩ X) :=
  J.opv fun a w s => by
    have h2 := run_bytes_of_string (P := P) w S T E ⟨bs.toArray⟩ j.und i.und i.el
    have hsz : (ByteArray.mk bs.toArray).size = bs.length := rfl
    rw [hsz] at h2
    have hge := grownCap_ge w bs.length 0 E
    have hle := grownCap_le_maxLen w bs.length 0 E hm
    refine ⟨_, _, by simp only [execOp, s.1.ev hx, Sem.run_bind, h2, Result.andThen_ok]; rfl, K (w.heap.size, grownCap w bs.length 0 E) ⟨hge, hle⟩ _ _ ⟨s.1.put hd, s.2.1, s.2.2.drew.new _ _ fun h' hh => ?_⟩⟩
    refine .inr ⟨w.heap.size, 0, _, _, _, _, rfl, hge, rfl, hh, fun k u hk => ?_⟩
    rw [Nat.zero_add]
    have hk' : k < bs.length := by
      have := (List.getElem?_eq_some_iff.1 hk).1
      rwa [bcs_length] at this
    rw [bytesRow_at _ _ k (by simpa using hk')]
    rw [← hk, bcs_get (List.getElem?_eq_getElem hk')]
    simp [bcell]
theorem J.rowLe {G : Act → World → Prop} {ao : Option Addr} {n m cap E sz : Nat} {C : List Value} (hm : In (Eng.row (.slice ao n cap) E sz m C) H) (K : n ≤ cap → J c l H G) : J c l H G := J.mk fun a w s => (K (s.2.2.rd_row hm).2.1).out a w s
theorem RH.srowOff {w0 : World} {own : List Nat} {ao : Option Addr} {n m cap E i k mm : Nat} {V : List Value} {L : List (List UInt8)} (hm : In (Eng.row (.slice ao n cap) E 1 m V) H) (h : RH w0 own H (fun w => RdL w V L)) (hk : k ≤ mm) : RH w0 own H (fun w => RdS w (offA ao i mm) ((L.drop i).take k)) :=
  fun w s => ⟨_, (s.rd_row hm).1.off i k mm hk, RdL.takeV k (RdL.dropV i (h w s))⟩
end
theorem cut_ (ao : Option Addr) (n cap : Nat) (l : List UInt8) (N : Nat) (w : World) (hw : (Rd w ao (bcs l) ∧ n = l.length ∧ n ≤ cap) ∧ n = N * 8 ∧ cap ≤ maxLen ∧ N ≤ 1000) : CSpec Tryz.prog 166 [.slice ao n cap, .int .i64 8] [] w (FreshS N (pcs l N)) := by
  obtain ⟨⟨hr, hln, hc⟩, hN, hcm, hm⟩ := hw
  refine spec_ownM Tryz.func166 rfl Tryz.ntmps166 rfl (l0 := [(0, .slice ao n cap), (1, .int .i64 8)]) rfl ?_
  refine J.noPanic ?_
  repeat' first
    | ((with_reducible apply J.iterC (chunkf _ _ _ 8)); exact rfl; exact rfl; decide; intro _ _)
    | refine J.one ?_
    | refine J.loudS ?_
    | (refine J.loudQ ?_; intro _ _)
    | (refine J.loudB ?_; intro _)
    | (with_reducible apply J.list)
    | ((with_reducible apply JC.draw (id := 6) [0, 0, 2, 6, 15, 31] (.q 0 (.p 1 (.x 2 (.x 3 (.x 4 (.x 5 .nil .none) .none) .none) .none))) (by kernel_rfl) ?_ (by kernel_rfl) ?_); (repeat (with_reducible first | exact PanicFree.body | exact PanicFree.np | exact PanicFree.lvS | apply PanicFree.then_ | apply PanicFree.blk)))
    | ((with_reducible apply J.pl2); exact rfl; (first | exact Gd.none | ((with_reducible apply Gd.on); exact rfl; exact rfl)); (first | exact pend_au | fail))
    | ((with_reducible apply J.pl2_off); exact rfl; ((with_reducible apply Gd.off); exact rfl; exact rfl; exact rfl); exact rfl; (first | exact pend_au | fail))
    | ((with_reducible apply J.pl2_off_none); exact rfl; ((with_reducible apply Gd.off); exact rfl; exact rfl; exact rfl); (first | exact pend_au | fail))
    | ((with_reducible first | apply J.psplit0 | apply J.psplit1 | apply J.psplit2); exact rfl; exact rfl; exact rfl)
    | (with_reducible exact J.pl_none)
    | ((with_reducible apply J.gsplit); exact rfl; exact rfl)
    | ((with_reducible first | apply J.cond | apply JC.cond); exact rfl)
    | (intro h; exfalso; (first | (simp at h; done) | (simp at h; omega)))
    | (intro h; (try simp only [decide_eq_true_eq, decide_eq_false_iff_not, beq_iff_eq, beq_eq_false_iff_ne, Bool.not_eq_true', Bool.not_eq_false', bne_iff_ne, bne_eq_false_iff_eq, ne_eq, ge_iff_le, gt_iff_lt] at h))
    | (with_reducible apply J.gave')
    | ((with_reducible apply J.kept'); rotate_left; (first | exact outs_au | fail))
  rename_i b5 Bs Bn
  refine J.nilRow 93 1 ?_
  refine J.packNil ?_
  have e0 : N - N = 0 := Nat.sub_self N
  apply J.reB (b := b5) (C' := [.slice none (N - N) 0])
  · (repeat (first | with_reducible exact Upd.here | with_reducible apply Upd.there))
  · rw [e0]
  apply J.reR (v' := .slice none (N - N) 0) (n' := N - N) (C' := [])
  · (repeat (first | with_reducible exact Upd.here | with_reducible apply Upd.there))
  · rw [e0]
  · rw [e0]
  · rfl
  rw [show ([] : List (List UInt8)) = pcs l (N - N) by rw [e0]; rfl]
  apply J.rangeG (ps := [15]) (chunk_byte Bs Bn N 8 n cap ao (by decide) hN hc hcm) (fun k (s : (Option Addr × Nat) × List Value) => s.2.length = N - k) (fun k s => [blk b5 [.slice s.1.1 (N - k) s.1.2] 161, row (.slice s.1.1 (N - k) s.1.2) 93 1 (N - k) s.2, sepA (bsA s.2 (pcs l (N - k))), blk Bs [.slice ao n cap] 93, blk Bn [.int .i64 8] 3]) [falseA] (fun k => [(6, .slice (ao.map (·.add ((N - (k + 1)) * 8))) 8 8), (5, .pointer (some ⟨b5, 0, none⟩))]) ((none, 0), [])
  case hg => rfl
  case hps => rfl
  case hlen => exact fun k => rfl
  case hF => exact fun k s W _ st => ⟨st.cell (.tail _ (.tail _ (.tail _ (.head _)))) rfl, st.cell (.tail _ (.tail _ (.tail _ (.tail _ (.head _))))) rfl⟩
  case hI => simp
  case ho => ((try dsimp only); (first | exact outs_au | fail))
  case hm => kernel_rfl
  case hka => rfl
  case hkb => rfl
  case hassign =>
    intro k A
    try dsimp only [putSl]
    repeat' first
      | ((with_reducible apply J.iterC (chunkf _ _ _ 8)); exact rfl; exact rfl; decide; intro _ _)
      | refine J.one ?_
      | refine J.loudS ?_
      | (refine J.loudQ ?_; intro _ _)
      | (refine J.loudB ?_; intro _)
      | (with_reducible apply J.list)
      | ((with_reducible apply JC.draw (id := 6) [0, 0, 2, 6, 15, 31] (.q 0 (.p 1 (.x 2 (.x 3 (.x 4 (.x 5 .nil .none) .none) .none) .none))) (by kernel_rfl) ?_ (by kernel_rfl) ?_); (repeat (with_reducible first | exact PanicFree.body | exact PanicFree.np | exact PanicFree.lvS | apply PanicFree.then_ | apply PanicFree.blk)))
      | ((with_reducible apply J.pl2); exact rfl; (first | exact Gd.none | ((with_reducible apply Gd.on); exact rfl; exact rfl)); (first | exact pend_au | fail))
      | ((with_reducible apply J.pl2_off); exact rfl; ((with_reducible apply Gd.off); exact rfl; exact rfl; exact rfl); exact rfl; (first | exact pend_au | fail))
      | ((with_reducible apply J.pl2_off_none); exact rfl; ((with_reducible apply Gd.off); exact rfl; exact rfl; exact rfl); (first | exact pend_au | fail))
      | ((with_reducible first | apply J.psplit0 | apply J.psplit1 | apply J.psplit2); exact rfl; exact rfl; exact rfl)
      | (with_reducible exact J.pl_none)
      | ((with_reducible apply J.gsplit); exact rfl; exact rfl)
      | ((with_reducible first | apply J.cond | apply JC.cond); exact rfl)
      | (intro h; exfalso; (first | (simp at h; done) | (simp at h; omega)))
      | (intro h; (try simp only [decide_eq_true_eq, decide_eq_false_iff_not, beq_iff_eq, beq_eq_false_iff_ne, Bool.not_eq_true', Bool.not_eq_false', bne_iff_ne, bne_eq_false_iff_eq, ne_eq, ge_iff_le, gt_iff_lt] at h))
      | (with_reducible apply J.gave')
      | ((with_reducible apply J.kept'); rotate_left; (first | exact outs_au | fail))
    all_goals ((try dsimp only); apply J.stE; ((try dsimp only); repeat (first | exact sub.nil _ | (refine sub.consE rfl ?_ ?_; (first | with_reducible rfl | (fail) | rfl)))))
  case hbody =>
    rintro ll D rc k ⟨q0, V⟩ hk hI
    try dsimp only at *
    repeat' first
      | ((with_reducible apply J.appendR (news := [_])); exact rfl; exact rfl; (repeat (first | with_reducible exact Out.here | with_reducible apply Out.there)); exact rfl; exact RH.blk0 (by (first | exact in_au | fail)); exact rfl; exact rfl; exact rfl; exact rfl; (simp only [maxLen]; omega); omega; intro _ _)
      | ((with_reducible apply J.freshR (clone_bytes _ _ _ (bcs ((l.drop ((N - (k + 1)) * 8)).take 8)))); exact rfl; exact rfl; (focus ((refine RH.and (RH.subM (RH.old hr)) (RH.of ⟨?_, bcs_ones _, ?_, ?_⟩) <;> first | (simp only [maxLen]; omega) | omega | (rw [bcs_length, List.length_take, List.length_drop]; omega)))); intro _ _)
      | refine J.one ?_
      | refine J.loudS ?_
      | (refine J.loudQ ?_; intro _ _)
      | (refine J.loudB ?_; intro _)
      | (with_reducible apply J.list)
      | ((with_reducible apply JC.draw (id := 6) [0, 0, 2, 6, 15, 31] (.q 0 (.p 1 (.x 2 (.x 3 (.x 4 (.x 5 .nil .none) .none) .none) .none))) (by kernel_rfl) ?_ (by kernel_rfl) ?_); (repeat (with_reducible first | exact PanicFree.body | exact PanicFree.np | exact PanicFree.lvS | apply PanicFree.then_ | apply PanicFree.blk)))
      | ((with_reducible apply J.pl2); exact rfl; (first | exact Gd.none | ((with_reducible apply Gd.on); exact rfl; exact rfl)); (first | exact pend_au | fail))
      | ((with_reducible apply J.pl2_off); exact rfl; ((with_reducible apply Gd.off); exact rfl; exact rfl; exact rfl); exact rfl; (first | exact pend_au | fail))
      | ((with_reducible apply J.pl2_off_none); exact rfl; ((with_reducible apply Gd.off); exact rfl; exact rfl; exact rfl); (first | exact pend_au | fail))
      | ((with_reducible first | apply J.psplit0 | apply J.psplit1 | apply J.psplit2); exact rfl; exact rfl; exact rfl)
      | (with_reducible exact J.pl_none)
      | ((with_reducible apply J.gsplit); exact rfl; exact rfl)
      | ((with_reducible first | apply J.cond | apply JC.cond); exact rfl)
      | (intro h; exfalso; fail)
      | (intro h; (try simp only [decide_eq_true_eq, decide_eq_false_iff_not, beq_iff_eq, beq_eq_false_iff_ne, Bool.not_eq_true', Bool.not_eq_false', bne_iff_ne, bne_eq_false_iff_eq, ne_eq, ge_iff_le, gt_iff_lt] at h))
      | (with_reducible apply J.gave')
      | ((with_reducible apply J.kept'); rotate_left; (first | exact outs_au | fail))
    all_goals
      first
      | (rename_i q1 _ b q2 _
         apply J.rowPack (V := V) (L := pcs l (N - (k + 1)))
         · (repeat (first | with_reducible exact Out.here | with_reducible apply Out.there))
         · (repeat (first | with_reducible exact Out.here | with_reducible apply Out.there))
         · rw [List.length_take, List.length_drop]; omega
         · rw [pcs_length]; exact hI
         have e1 : N - k = N - (k + 1) + 1 := by omega
         have e2 : pcs l (N - k) = pcs l (N - (k + 1)) ++ [(l.drop ((N - (k + 1)) * 8)).take 8] := by rw [e1, pcs_succ, Nat.mul_comm 8]
         rw [← e2]
         apply J.lvN (q2, V ++ [.slice q1.1 8 q1.2]) (by simp; omega)
         (dsimp only [List.cons_append, List.nil_append]; rw [e1]; (first | exact outs_au | fail)))
      | (trace_state; fail)
  case hdone =>
    rintro ⟨q0, V⟩ hI D
    try dsimp only at *
    repeat' first
      | ((with_reducible apply J.iterC (chunkf _ _ _ 8)); exact rfl; exact rfl; decide; intro _ _)
      | refine J.one ?_
      | refine J.loudS ?_
      | (refine J.loudQ ?_; intro _ _)
      | (refine J.loudB ?_; intro _)
      | (with_reducible apply J.list)
      | ((with_reducible apply JC.draw (id := 6) [0, 0, 2, 6, 15, 31] (.q 0 (.p 1 (.x 2 (.x 3 (.x 4 (.x 5 .nil .none) .none) .none) .none))) (by kernel_rfl) ?_ (by kernel_rfl) ?_); (repeat (with_reducible first | exact PanicFree.body | exact PanicFree.np | exact PanicFree.lvS | apply PanicFree.then_ | apply PanicFree.blk)))
      | ((with_reducible apply J.pl2); exact rfl; (first | exact Gd.none | ((with_reducible apply Gd.on); exact rfl; exact rfl)); (first | exact pend_au | fail))
      | ((with_reducible apply J.pl2_off); exact rfl; ((with_reducible apply Gd.off); exact rfl; exact rfl; exact rfl); exact rfl; (first | exact pend_au | fail))
      | ((with_reducible apply J.pl2_off_none); exact rfl; ((with_reducible apply Gd.off); exact rfl; exact rfl; exact rfl); (first | exact pend_au | fail))
      | ((with_reducible first | apply J.psplit0 | apply J.psplit1 | apply J.psplit2); exact rfl; exact rfl; exact rfl)
      | (with_reducible exact J.pl_none)
      | ((with_reducible apply J.gsplit); exact rfl; exact rfl)
      | ((with_reducible first | apply J.cond | apply JC.cond); exact rfl)
      | (intro h; exfalso; (first | (simp at h; done) | (simp at h; omega)))
      | (intro h; (try simp only [decide_eq_true_eq, decide_eq_false_iff_not, beq_iff_eq, beq_eq_false_iff_ne, Bool.not_eq_true', Bool.not_eq_false', bne_iff_ne, bne_eq_false_iff_eq, ne_eq, ge_iff_le, gt_iff_lt] at h))
      | (with_reducible apply J.gave')
      | ((with_reducible apply J.kept'); rotate_left; (first | exact outs_au | fail))
    rw [Nat.sub_zero] at *
    all_goals
      first
      | (refine J.rowLe (ao := q0.1) (n := N) (cap := q0.2) (by (first | exact in_au | fail)) fun hle => ?_
         exact J.post ⟨q0, V, rfl, hle, hI, rfl⟩ (by (first | exact outs_au | fail)))
      | (trace_state; fail)
  case hstop =>
    intro D
    exact J.absurd_ (.there .here)
/-- A signature's leaf. -/
def leafF (s : List UInt8) : Int := if s = [] then -1 else ((s.headD 0).toNat : Int)
theorem head_get {s : List UInt8} (h : ¬s = []) : s[0]? = some (s.headD 0) := by
  cases s with
  | nil => exact absurd rfl h
  | cons b r => rfl
theorem leaf_nat {s : List UInt8} (h : s.length = 145) : leafF s = ((s.headD 0).toNat : Int) := if_neg (by intro e; rw [e] at h; simp at h)
theorem leaf_ (s : List UInt8) (w : World) (hw : True) : CSpec Tryz.prog 165 [str s] [] w (Gives (.int .i64 (leafF s))) := by
  have hb := (s.headD 0).toNat_lt
  refine spec_own0 Tryz.func165 rfl Tryz.ntmps165 rfl (l0 := [(0, str s)]) rfl ?_
  repeat' first
    | (refine J.qv ?_; (with_reducible apply exq); focus (first
      | ((with_reducible apply Qv.idxS (n := 0)); exact rfl; exact rfl; exact rfl; exact head_get (by assumption))
      | ((with_reducible apply Qv.conv); exact rfl; exact wr64 (z := (((s.headD 0).toNat : Nat) : Int)) (by omega) (by omega) rfl)))
    | refine J.one ?_
    | refine J.loudS ?_
    | (refine J.loudQ ?_; intro _ _)
    | (refine J.loudB ?_; intro _)
    | (with_reducible apply J.list)
    | ((with_reducible apply J.gsplit); exact rfl; exact rfl)
    | ((with_reducible first | apply J.cond | apply JC.cond); exact rfl)
    | (intro h; exfalso; fail)
    | (intro h; (try simp only [decide_eq_true_eq, decide_eq_false_iff_not, beq_iff_eq, beq_eq_false_iff_ne, Bool.not_eq_true', Bool.not_eq_false', bne_iff_ne, bne_eq_false_iff_eq, ne_eq, ge_iff_le, gt_iff_lt] at h))
    | (with_reducible apply J.gave')
    | ((with_reducible apply J.kept'); rotate_left; (first | exact outs_au | fail))
  all_goals
    first
    | (simp only [retv, leafF]; rw [if_pos (by assumption)]; done)
    | (simp only [retv, leafF]; rw [if_neg (by assumption)]; done)
    | (trace_state; fail)
section
variable {c : Cx} {l : TL} {H : List Asrt} {w0 : World} {own : List Nat}
theorem J.packAt {G : Act → World → Prop} {V : List Value} {L : List (List UInt8)} {i : Nat} {p : List UInt8} (hm : In (sepA (bsA V L)) H) (hl : V.length = L.length) (hi : L[i]? = some p) (K : ∀ ai ci, V[i]? = some (.slice ai p.length ci) → J c l H G) : J c l H G := J.mk fun a w s => by
  obtain ⟨v, hv, ai, ci, rfl, _, _⟩ := RdL.get (s.2.2.rd_bs hm hl) hi
  exact (K ai ci hv).out a w s
theorem RH.packAt {V : List Value} {L : List (List UInt8)} {i n ci : Nat} {p : List UInt8} {ai : Option Addr} (hm : In (sepA (bsA V L)) H) (hl : V.length = L.length) (hi : L[i]? = some p) (hv : V[i]? = some (.slice ai n ci)) : RH w0 own H (fun w => Rd w ai (bcs p)) := fun w s => by
  obtain ⟨v, hv2, ai2, ci2, rfl, _, hb⟩ := RdL.get (s.rd_bs hm hl) hi
  rw [hv] at hv2
  cases hv2
  exact hb
end
/-- The root that a signature leads to. -/
noncomputable def upF (T sig : List UInt8) : List UInt8 := (cls (openF T ((pcs (sig.drop 1) 18).take 15)) (leafF sig).toNat (((pcs (sig.drop 1) 18).drop 15).take 3)).1
open Classical in
noncomputable def vrf (root T sig : List UInt8) : Int × Bool := if sig.length = 145 ∧ leafF sig < 8 ∧ upF T sig = root then (leafF sig, true) else (0, false)
theorem openF_le (T : List UInt8) (P : List (List UInt8)) : (openF T P).length ≤ 8 := by
  unfold openF
  split
  · rw [short_length]; omega
  · simp
theorem verify_ (root : List UInt8) (aot : Option Addr) (nt capt : Nat) (T sig : List UInt8) (w : World) (hw : Rd w aot (bcs T) ∧ nt = T.length ∧ T.length ≤ 1099511627776) : CSpec Tryz.prog 157 [str root, .slice aot nt capt, str sig] [] w (Gives (.tuple #[.int .i64 (vrf root T sig).1, .bool (vrf root T sig).2])) := by
  obtain ⟨hT, rfl, hTl⟩ := hw
  have hD0 : ((sig.drop 1).take (sig.length - 1)).length = sig.length - 1 := by rw [List.length_take, List.length_drop]; omega
  refine spec_own0 Tryz.func157 rfl Tryz.ntmps157 rfl (l0 := [(0, str root), (1, .slice aot T.length capt), (2, str sig)]) rfl ?_
  repeat' first
    | (refine J.qv ?_; (with_reducible apply exq); focus (first
      | ((with_reducible apply Qv.slS (p := 1) (r := sig.length)); exact rfl; exact Bd.some rfl rfl; exact Bd.none; omega; omega)
      | ((with_reducible apply Qv.sliceTo (k := 15)); exact rfl; exact rfl; exact rfl; omega)))
    | ((with_reducible apply J.toBytesC); exact rfl; exact rfl; (simp only [maxLen]; rw [hD0]; omega); intro _ _)
    | ((with_reducible apply J.givesR (leaf_ _)); exact rfl; exact rfl; focus (exact RH.of trivial))
    | ((with_reducible apply J.freshSR (cut_ _ _ _ ((sig.drop 1).take (sig.length - 1)) 18)); exact rfl; exact rfl; (focus (refine RH.and (RH.and (RH.bat (by (first | exact in_au | fail))) (RH.of ⟨rfl, ?_⟩)) (RH.of ⟨?_, ?_, ?_⟩) <;> omega)); intro _ _ _ _)
    | refine J.one ?_
    | refine J.loudS ?_
    | (refine J.loudQ ?_; intro _ _)
    | (refine J.loudB ?_; intro _)
    | (with_reducible apply J.list)
    | ((with_reducible apply J.draw (id := 11) [0, 0, 3, 0, 0, 16, 63, 0, 255] (.p 0 (.p 1 (.p 3 (.p 4 (.p 5 (.p 7 (.x 2 (.x 6 (.p 8 .nil) .none) .none))))))) (by kernel_rfl) ?_ (by kernel_rfl) ?_); (repeat (with_reducible first | exact PanicFree.body | exact PanicFree.np | exact PanicFree.lvS | apply PanicFree.then_ | apply PanicFree.blk)))
    | ((with_reducible apply J.pl2); exact rfl; (first | exact Gd.none | ((with_reducible apply Gd.on); exact rfl; exact rfl)); (first | exact pend_au | fail))
    | ((with_reducible apply J.pl2_off); exact rfl; ((with_reducible apply Gd.off); exact rfl; exact rfl; exact rfl); exact rfl; (first | exact pend_au | fail))
    | ((with_reducible apply J.pl2_off_none); exact rfl; ((with_reducible apply Gd.off); exact rfl; exact rfl; exact rfl); (first | exact pend_au | fail))
    | ((with_reducible first | apply J.psplit0 | apply J.psplit1 | apply J.psplit2); exact rfl; exact rfl; exact rfl)
    | (with_reducible exact J.pl_none)
    | ((with_reducible apply J.gsplit); exact rfl; exact rfl)
    | ((with_reducible first | apply J.cond | apply JC.cond); exact rfl)
    | (intro h; exfalso; (first | (simp at h; done) | (simp at h; omega) | omega))
    | (intro h; (try simp only [decide_eq_true_eq, decide_eq_false_iff_not, beq_iff_eq, beq_eq_false_iff_ne, Bool.not_eq_true', Bool.not_eq_false', bne_iff_ne, bne_eq_false_iff_eq, ne_eq, ge_iff_le, gt_iff_lt] at h))
    | (with_reducible apply J.gave')
    | ((with_reducible apply J.kept'); rotate_left; (first | exact outs_au | fail))
  all_goals try
    first
    | (have e : vrf root T sig = (0, false) := by unfold vrf; exact if_neg (fun hc => absurd hc.1 (by omega))
       rw [e]
       rfl)
    | (have e : vrf root T sig = (0, false) := by unfold vrf; exact if_neg (fun hc => absurd hc.2.1 (by omega))
       rw [e]
       rfl)
  rename_i q V hq hVn
  obtain ⟨kk, hkk⟩ : ∃ k : Nat, leafF sig = (k : Int) := ⟨_, leaf_nat (by omega)⟩
  have hsl : sig.length = 145 := by omega
  have hDD : (sig.drop 1).take (sig.length - 1) = sig.drop 1 := List.take_of_length_le (by rw [List.length_drop]; omega)
  have hD : (sig.drop 1).length = 18 * 8 := by rw [List.length_drop]; omega
  have hVl : V.length = (pcs (sig.drop 1) 18).length := by rw [pcs_length]; exact hVn
  rw [hDD, hkk]
  refine J.nilRow 9 1 ?_
  rw [show ([] : List Value) = scs ((pcs (sig.drop 1) 18).take 0) from rfl]
  apply J.loopI (σ := (Nat × (Option Addr × Nat))) (I := fun s => (s.1 ≤ 15)) (L := fun s => [(0, str root), (1, .slice aot T.length capt), (8, .int .i64 (kk : Int)), (9, .slice q.1 18 q.2), (27, .slice q.1 15 q.2), (28, .int .i64 15), (29, .int .i64 (s.1 : Int)), (10, .slice s.2.1 s.1 s.2.2)]) (HH := fun s => [row (.slice q.1 18 q.2) 93 1 18 V, sepA (bsA V (pcs (sig.drop 1) 18)), row (.slice s.2.1 s.1 s.2.2) 9 1 s.1 (scs ((pcs (sig.drop 1) 18).take s.1))]) (m := fun s => 15 - s.1) (s0 := (0, (none, 0)))
  · ((try dsimp only); (exact Nat.zero_le _))
  · ((try dsimp only); repeat (first | exact sub.nil _ | (refine sub.consE rfl ?_ ?_; (first | with_reducible rfl | (fail) | rfl))))
  · ((try dsimp only); (first | exact outs_au | fail))
  rintro ⟨i, q3⟩ hI
  try dsimp only at hI ⊢
  have hpl := pcs_length (sig.drop 1) 18
  rcases Nat.lt_or_ge i 15 with hlt | hge
  · obtain ⟨p, hp⟩ : ∃ p, (pcs (sig.drop 1) 18)[i]? = some p := ⟨_, List.getElem?_eq_getElem (by omega)⟩
    have hts := take_snoc hp
    refine J.packAt (by (first | exact in_au | fail)) hVl hp fun ai ci hv => ?_
    repeat' first
      | (refine J.qr ?_; (with_reducible apply exq); focus (first
        | ((with_reducible apply Qr.indexRd (k := i) (C := V)); exact rfl; exact rfl; exact rfl; omega; exact RH.row (by (first | exact in_au | fail)); omega)
        | ((with_reducible apply Qr.rd1 (C := V)); exact rfl; exact RH.row (by (first | exact in_au | fail)); (rw [Nat.mul_one]; exact hv))
        | ((with_reducible apply Qr.toStr (bs := p)); exact rfl; exact RH.packAt (by (first | exact in_au | fail)) hVl hp hv; exact rfl)))
      | (refine J.qo ?_; refine ⟨?_, ?_⟩; focus (first
        | ((with_reducible apply Qr.indexRd (k := i) (C := V)); exact rfl; exact rfl; exact rfl; omega; exact RH.row (by (first | exact in_au | fail)); omega)
        | ((with_reducible apply Qr.rd1 (C := V)); exact rfl; exact RH.row (by (first | exact in_au | fail)); (rw [Nat.mul_one]; exact hv))
        | ((with_reducible apply Qr.toStr (bs := p)); exact rfl; exact RH.packAt (by (first | exact in_au | fail)) hVl hp hv; exact rfl)))
      | ((with_reducible apply J.appendR (news := [_])); exact rfl; exact rfl; (repeat (first | with_reducible exact Out.here | with_reducible apply Out.there)); exact rfl; exact RH.blk0 (by (first | exact in_au | fail)); exact rfl; exact rfl; exact rfl; exact rfl; (simp only [maxLen]; omega); omega; intro _ _)
      | refine J.one ?_
      | refine J.loudS ?_
      | (refine J.loudQ ?_; intro _ _)
      | (refine J.loudB ?_; intro _)
      | (with_reducible apply J.list)
      | ((with_reducible apply J.draw (id := 11) [0, 0, 3, 0, 0, 16, 63, 0, 255] (.p 0 (.p 1 (.p 3 (.p 4 (.p 5 (.p 7 (.x 2 (.x 6 (.p 8 .nil) .none) .none))))))) (by kernel_rfl) ?_ (by kernel_rfl) ?_); (repeat (with_reducible first | exact PanicFree.body | exact PanicFree.np | exact PanicFree.lvS | apply PanicFree.then_ | apply PanicFree.blk)))
      | ((with_reducible apply J.pl2); exact rfl; (first | exact Gd.none | ((with_reducible apply Gd.on); exact rfl; exact rfl)); (first | exact pend_au | fail))
      | ((with_reducible apply J.pl2_off); exact rfl; ((with_reducible apply Gd.off); exact rfl; exact rfl; exact rfl); exact rfl; (first | exact pend_au | fail))
      | ((with_reducible apply J.pl2_off_none); exact rfl; ((with_reducible apply Gd.off); exact rfl; exact rfl; exact rfl); (first | exact pend_au | fail))
      | ((with_reducible first | apply J.psplit0 | apply J.psplit1 | apply J.psplit2); exact rfl; exact rfl; exact rfl)
      | (with_reducible exact J.pl_none)
      | ((with_reducible apply J.gsplit); exact rfl; exact rfl)
      | ((with_reducible first | apply J.cond | apply JC.cond); exact rfl)
      | (intro h; exfalso; (first | (simp at h; done) | (simp at h; omega) | omega))
      | (intro h; (try simp only [decide_eq_true_eq, decide_eq_false_iff_not, beq_iff_eq, beq_eq_false_iff_ne, Bool.not_eq_true', Bool.not_eq_false', bne_iff_ne, bne_eq_false_iff_eq, ne_eq, ge_iff_le, gt_iff_lt] at h))
      | (with_reducible apply J.gave')
      | ((with_reducible apply J.kept'); rotate_left; (first | exact outs_au | fail))
    all_goals
      first
      | (rw [show scs ((pcs (sig.drop 1) 18).take i) ++ [str p] = scs ((pcs (sig.drop 1) 18).take (i + 1)) by rw [hts, scs_append]; rfl]
         (apply J.againI (s := (i, q3)) (s' := (i + 1, _)); (focus (omega)); (focus ((try dsimp only); (show i + 1 ≤ 15; omega))); (focus (((try dsimp only); repeat (first | exact sub.nil _ | (refine sub.consE rfl ?_ ?_; (first | with_reducible rfl | ((focus (congr 1; omega))) | rfl)))))); ((try dsimp only); (first | exact outs_au | fail))))
      | (trace_state; fail)
  · obtain rfl : i = 15 := by omega
    have hol := openF_le T ((pcs (sig.drop 1) 18).take 15)
    have hpt : ((pcs (sig.drop 1) 18).take 15).length = 15 := by rw [List.length_take]; omega
    have hpd : (((pcs (sig.drop 1) 18).drop 15).take 3).length = 3 := by rw [List.length_take, List.length_drop]; omega
    have hup : upF T sig = (cls (openF T ((pcs (sig.drop 1) 18).take 15)) kk (((pcs (sig.drop 1) 18).drop 15).take 3)).1 := by unfold upF; rw [hkk]; rfl
    repeat' first
      | (refine J.qv ?_; (with_reducible apply exq); focus (first
        | ((with_reducible apply Qv.sl (p := 15) (r := 18)); exact rfl; exact Bd.some rfl rfl; exact Bd.none; omega; omega)))
      | ((with_reducible apply J.givesR (open_ _ _ _ T _ _ _ ((pcs (sig.drop 1) 18).take 15))); exact rfl; exact rfl; focus (refine RH.and (RH.and (RH.old hT) (RH.row (by (first | exact in_au | fail)))) (RH.of ⟨rfl, ?_, ?_, ?_⟩) <;> omega))
      | ((with_reducible apply J.givesR (climb_ (openF T ((pcs (sig.drop 1) 18).take 15)) kk _ _ _ (((pcs (sig.drop 1) 18).drop 15).take 3))); exact rfl; exact rfl; focus (refine RH.and (RH.srowOff (k := 3) (by (first | exact in_au | fail)) (RH.lbs (by (first | exact in_au | fail)) hVl) ?_) (RH.of ⟨?_, ?_, ?_, ?_, ?_⟩) <;> first | omega | (intro p hp; exact Nat.le_trans (Nat.le_of_eq (pcs_8 hD p (List.mem_of_mem_drop (List.mem_of_mem_take hp)))) (by omega))))
      | refine J.one ?_
      | refine J.loudS ?_
      | (refine J.loudQ ?_; intro _ _)
      | (refine J.loudB ?_; intro _)
      | (with_reducible apply J.list)
      | ((with_reducible apply J.draw (id := 11) [0, 0, 3, 0, 0, 16, 63, 0, 255] (.p 0 (.p 1 (.p 3 (.p 4 (.p 5 (.p 7 (.x 2 (.x 6 (.p 8 .nil) .none) .none))))))) (by kernel_rfl) ?_ (by kernel_rfl) ?_); (repeat (with_reducible first | exact PanicFree.body | exact PanicFree.np | exact PanicFree.lvS | apply PanicFree.then_ | apply PanicFree.blk)))
      | ((with_reducible apply J.pl2); exact rfl; (first | exact Gd.none | ((with_reducible apply Gd.on); exact rfl; exact rfl)); (first | exact pend_au | fail))
      | ((with_reducible apply J.pl2_off); exact rfl; ((with_reducible apply Gd.off); exact rfl; exact rfl; exact rfl); exact rfl; (first | exact pend_au | fail))
      | ((with_reducible apply J.pl2_off_none); exact rfl; ((with_reducible apply Gd.off); exact rfl; exact rfl; exact rfl); (first | exact pend_au | fail))
      | ((with_reducible first | apply J.psplit0 | apply J.psplit1 | apply J.psplit2); exact rfl; exact rfl; exact rfl)
      | (with_reducible exact J.pl_none)
      | ((with_reducible apply J.gsplit); exact rfl; exact rfl)
      | ((with_reducible first | apply J.cond | apply JC.cond); exact rfl)
      | (intro h; exfalso; (first | (simp at h; done) | (simp at h; omega) | omega))
      | (intro h; (try simp only [decide_eq_true_eq, decide_eq_false_iff_not, beq_iff_eq, beq_eq_false_iff_ne, Bool.not_eq_true', Bool.not_eq_false', bne_iff_ne, bne_eq_false_iff_eq, ne_eq, ge_iff_le, gt_iff_lt] at h))
      | (with_reducible apply J.gave')
      | ((with_reducible apply J.kept'); rotate_left; (first | exact outs_au | fail))
    all_goals
      first
      | (have e : vrf root T sig = (0, false) := by unfold vrf; rw [hup]; exact if_neg (fun hc => absurd hc.2.2 (by assumption))
         rw [e]
         rfl)
      | (have e : vrf root T sig = ((kk : Int), true) := by unfold vrf; rw [hup, hkk]; exact if_pos ⟨hsl, by omega, by assumption⟩
         rw [e]
         rfl)
      | (trace_state; fail)
end Go.Proofs.YtljbedladifgmaaGreat.Mss
