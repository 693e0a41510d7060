/-
  SHA-256 of texts. No conditions.
-/
import Derived.RegionIn
import Derived.BigRegionIn
import Derived.Test.YtfcaeifpclpnoaaQRng
import Derived.Test.YtfcaeifpclpnoaaQTy
import Derived.Test.YtfcaeifpclpnoaaQAu
import Derived.Test.YtfcaeifpclpnoaaQSha
import Derived.Test.YtfcaeifpclpnoaaQSle
namespace Go.Proofs.Ytfcaeifpclpnoaa.Iter
open Go Go.RowKit Go.Shelf Eng
set_option linter.unusedVariables false
set_option maxRecDepth 100000
set_option linter.unusedSimpArgs false
set_option maxHeartbeats 2000000
attribute [local go_sem] Oper.semAt_some
theorem wr1 {n : Nat} (h : n ≤ maxLen) : IntKind.i64.wrap ((n : Int) - 1) = (n : Int) - 1 := wr64 (by omega) (by simp only [maxLen] at h; omega) rfl
theorem mul_step {N k sz : Nat} (h : k < N) : (N - (k + 1)) * sz + sz = (N - k) * sz ∧ (N - k) * sz ≤ N * sz := by
  refine ⟨?_, Nat.mul_le_mul_right _ (Nat.sub_le _ _)⟩
  have : N - k = N - (k + 1) + 1 := by omega
  rw [this, Nat.succ_mul]
/-- Piece by piece: N pieces of sz each. -/
theorem chunk_byte (Bs Bn N sz n cap : Nat) (ao : Option Addr) (hz : 0 < sz) (hn : n = N * sz) (hc : n ≤ cap) (hm : cap ≤ maxLen) : Iter Try.prog 143 [.pointer (some ⟨Bs, 0, none⟩), .pointer (some ⟨Bn, 0, none⟩)] N
    (fun k => [.slice (ao.map (·.add ((N - (k + 1)) * sz))) sz sz]) (fun k W => W.cell? ⟨Bs, 0, none⟩ = some (.slice ao n cap) ∧ W.cell? ⟨Bn, 0, none⟩ = some (.int .i64 (sz : Int))) := by
  intro ll J Jx W hJ hst hY h0
  have hs0 := (hJ N W h0).1
  have hs1 := (hJ N W h0).2
  refine callsIn_of_wp Try.func143 rfl trivial ?_ rfl
  simp only [Try.ntmps143, List.size_toArray, List.length_cons, List.length_nil, Nat.reduceAdd, Nat.reduceSub, Array.replicate_succ, Array.replicate_zero, List.push_toArray, List.append_toArray, List.nil_append, List.cons_append]
  gi_wp2
  gi_loopw [4] (fun i wr => ∃ k j : Nat, k ≤ N ∧ j = (N - k) * sz ∧ i = .int .i64 (j : Int) ∧ J k wr) (fun i _ => (n + 1 - intOf i).toNat)
  case atStart => exact ⟨N, 0, by omega, by simp, rfl, h0⟩
  case round =>
    obtain ⟨k, j, hk, hj, rfl, hJs⟩ := hrel
    have hs := (hJ k wr hJs).1
    have ht := (hJ k wr hJs).2
    cases k with
    | zero =>
      have e0 : j = n := by rw [hn, hj]; simp
      subst e0
      gi_wp2
      go_end0
      exact ⟨⟨_, rfl⟩, .inl hJs⟩
    | succ k =>
      obtain ⟨m1, m2⟩ := mul_step (sz := sz) (show k < N by omega)
      rw [← hj] at m1
      rw [← hn] at m2
      have hlt : (j : Int) < (n : Int) := by omega
      have hJ2 : J (k + 1) wr.drew := hst _ _ hJs
      have hs2 := (hJ _ _ hJ2).1
      have ht2 := (hJ _ _ hJ2).2
      obtain ⟨fn, tmps, assign, body, hy, hR⟩ := hY k wr.drew (by omega) hJ2
      rw [← hj] at hy
      have d1 : j + sz ≤ cap := by omega
      have d2 : j ≤ j + sz := by omega
      have ew : IntKind.i64.wrap ((j : Int) + (sz : Int)) = ((j + sz : Nat) : Int) := wr64 (by omega) (by simp only [maxLen] at hm; omega) (by omega)
      have d3 : j + sz - j = sz := by omega
      have d4 : ¬ j + sz = j := by omega
      have m3 : (N - k) * sz = j + sz := m1.symm
      have hjn : j + sz ≤ n := by omega
      clear hj m1 m2 hn
      gi_wp2
      gi_region
      gi_wp2
      refine hR.mono ?_
      rintro e W3 (⟨rfl, hJ3⟩ | ⟨rfl, hJx3⟩)
      · have ht3 := (hJ _ _ hJ3).2
        gi_wp2
        go_roundw
        case rel => exact ⟨k, j + sz, by omega, m3.symm, by first | rfl | simp, hJ3⟩
        case measure => first | (simp [intOf]; done) | (simp [intOf]; omega)
      · gi_wp2
        refine bodyPost_ret (results_none rfl _ _ _) rfl ?_
        exact ⟨⟨_, rfl⟩, .inr hJx3⟩
/-- From the top down. -/
theorem back_byte (Bs b n cap : Nat) (x : Nat → Int) (hn : n ≤ maxLen) : Iter Try.prog 127 [.pointer (some ⟨Bs, 0, none⟩)] n (fun k => [.int .i64 (k : Int), .int .u8 (x k)])
    (fun k W => W.cell? ⟨Bs, 0, none⟩ = some (.slice (some ⟨b, 0, none⟩) n cap) ∧ ∀ j, k = j + 1 → j < n → W.cell? ⟨b, j, none⟩ = some (.int .u8 (x j))) := by
  intro ll J Jx W hJ hst hY h0
  have hs0 := (hJ n W h0).1
  refine callsIn_of_wp Try.func127 rfl trivial ?_ rfl
  simp only [Try.ntmps127, List.size_toArray, List.length_cons, List.length_nil, Nat.reduceAdd, Nat.reduceSub, Array.replicate_succ, Array.replicate_zero, List.push_toArray, List.append_toArray, List.nil_append, List.cons_append]
  gi_wp2
  gi_loopw [3] (fun i wr => ∃ k : Nat, k ≤ n ∧ i = .int .i64 ((k : Int) - 1) ∧ J k wr) (fun i _ => (intOf i + 1).toNat)
  case atStart => exact ⟨n, by omega, by first | rfl | (congr 1; unfold wrap64; simp only [maxLen] at hn; omega), h0⟩
  case round =>
    obtain ⟨k, hk, rfl, hJs⟩ := hrel
    have hs := (hJ k wr hJs).1
    cases k with
    | zero =>
      gi_wp2
      go_end0
      exact ⟨⟨_, rfl⟩, .inl hJs⟩
    | succ k =>
      have hk4 : k < n := by omega
      have e1 : ((k + 1 : Nat) : Int) - 1 = (k : Int) := by omega
      rw [e1]
      have hc := (hJ (k + 1) wr hJs).2 k rfl hk4
      obtain ⟨fn, tmps, assign, body, hy, hR⟩ := hY k wr hk4 hJs
      have ew : IntKind.i64.wrap ((k : Int) - 1) = (k : Int) - 1 := wr1 (by omega)
      gi_wp2
      refine hR.mono ?_
      rintro e W3 (⟨rfl, hJ3⟩ | ⟨rfl, hJx3⟩)
      · gi_wp2
        go_roundw
        case rel => exact ⟨k, by omega, by first | rfl | (congr 1), hJ3⟩
        case measure => first | (simp [intOf]; done) | (simp [intOf]; omega) | (rw [ew]; simp [intOf]; omega)
      · gi_wp2
        refine bodyPost_ret (results_none rfl _ _ _) rfl ?_
        exact ⟨⟨_, rfl⟩, .inr hJx3⟩
/-- From the top down. -/
theorem back_uint64 (Bs b n cap : Nat) (x : Nat → Int) (hn : n ≤ maxLen) : Iter Try.prog 95 [.pointer (some ⟨Bs, 0, none⟩)] n (fun k => [.int .i64 (k : Int), .int .u64 (x k)])
    (fun k W => W.cell? ⟨Bs, 0, none⟩ = some (.slice (some ⟨b, 0, none⟩) n cap) ∧ ∀ j, k = j + 1 → j < n → W.cell? ⟨b, j, none⟩ = some (.int .u64 (x j))) := by
  intro ll J Jx W hJ hst hY h0
  have hs0 := (hJ n W h0).1
  refine callsIn_of_wp Try.func95 rfl trivial ?_ rfl
  simp only [Try.ntmps95, List.size_toArray, List.length_cons, List.length_nil, Nat.reduceAdd, Nat.reduceSub, Array.replicate_succ, Array.replicate_zero, List.push_toArray, List.append_toArray, List.nil_append, List.cons_append]
  gi_wp2
  gi_loopw [3] (fun i wr => ∃ k : Nat, k ≤ n ∧ i = .int .i64 ((k : Int) - 1) ∧ J k wr) (fun i _ => (intOf i + 1).toNat)
  case atStart => exact ⟨n, by omega, by first | rfl | (congr 1; unfold wrap64; simp only [maxLen] at hn; omega), h0⟩
  case round =>
    obtain ⟨k, hk, rfl, hJs⟩ := hrel
    have hs := (hJ k wr hJs).1
    cases k with
    | zero =>
      gi_wp2
      go_end0
      exact ⟨⟨_, rfl⟩, .inl hJs⟩
    | succ k =>
      have hk4 : k < n := by omega
      have e1 : ((k + 1 : Nat) : Int) - 1 = (k : Int) := by omega
      rw [e1]
      have hc := (hJ (k + 1) wr hJs).2 k rfl hk4
      obtain ⟨fn, tmps, assign, body, hy, hR⟩ := hY k wr hk4 hJs
      have ew : IntKind.i64.wrap ((k : Int) - 1) = (k : Int) - 1 := wr1 (by omega)
      gi_wp2
      refine hR.mono ?_
      rintro e W3 (⟨rfl, hJ3⟩ | ⟨rfl, hJx3⟩)
      · gi_wp2
        go_roundw
        case rel => exact ⟨k, by omega, by first | rfl | (congr 1), hJ3⟩
        case measure => first | (simp [intOf]; done) | (simp [intOf]; omega) | (rw [ew]; simp [intOf]; omega)
      · gi_wp2
        refine bodyPost_ret (results_none rfl _ _ _) rfl ?_
        exact ⟨⟨_, rfl⟩, .inr hJx3⟩
/-- From the top down. -/
theorem back_int (Bs b n cap : Nat) (x : Nat → Int) (hn : n ≤ maxLen) : Iter Try.prog 148 [.pointer (some ⟨Bs, 0, none⟩)] n (fun k => [.int .i64 (k : Int), .int .i64 (x k)])
    (fun k W => W.cell? ⟨Bs, 0, none⟩ = some (.slice (some ⟨b, 0, none⟩) n cap) ∧ ∀ j, k = j + 1 → j < n → W.cell? ⟨b, j, none⟩ = some (.int .i64 (x j))) := by
  intro ll J Jx W hJ hst hY h0
  have hs0 := (hJ n W h0).1
  refine callsIn_of_wp Try.func148 rfl trivial ?_ rfl
  simp only [Try.ntmps148, List.size_toArray, List.length_cons, List.length_nil, Nat.reduceAdd, Nat.reduceSub, Array.replicate_succ, Array.replicate_zero, List.push_toArray, List.append_toArray, List.nil_append, List.cons_append]
  gi_wp2
  gi_loopw [3] (fun i wr => ∃ k : Nat, k ≤ n ∧ i = .int .i64 ((k : Int) - 1) ∧ J k wr) (fun i _ => (intOf i + 1).toNat)
  case atStart => exact ⟨n, by omega, by first | rfl | (congr 1; unfold wrap64; simp only [maxLen] at hn; omega), h0⟩
  case round =>
    obtain ⟨k, hk, rfl, hJs⟩ := hrel
    have hs := (hJ k wr hJs).1
    cases k with
    | zero =>
      gi_wp2
      go_end0
      exact ⟨⟨_, rfl⟩, .inl hJs⟩
    | succ k =>
      have hk4 : k < n := by omega
      have e1 : ((k + 1 : Nat) : Int) - 1 = (k : Int) := by omega
      rw [e1]
      have hc := (hJ (k + 1) wr hJs).2 k rfl hk4
      obtain ⟨fn, tmps, assign, body, hy, hR⟩ := hY k wr hk4 hJs
      have ew : IntKind.i64.wrap ((k : Int) - 1) = (k : Int) - 1 := wr1 (by omega)
      gi_wp2
      refine hR.mono ?_
      rintro e W3 (⟨rfl, hJ3⟩ | ⟨rfl, hJx3⟩)
      · gi_wp2
        go_roundw
        case rel => exact ⟨k, by omega, by first | rfl | (congr 1), hJ3⟩
        case measure => first | (simp [intOf]; done) | (simp [intOf]; omega) | (rw [ew]; simp [intOf]; omega)
      · gi_wp2
        refine bodyPost_ret (results_none rfl _ _ _) rfl ?_
        exact ⟨⟨_, rfl⟩, .inr hJx3⟩
end Go.Proofs.Ytfcaeifpclpnoaa.Iter
namespace Go.Proofs.Ytfcaeifpclpnoaa.Hash
open Go Go.RowKit Eng
set_option linter.unusedVariables false
set_option maxRecDepth 100000
set_option linter.unusedSimpArgs false
open Sha Iter
set_option maxHeartbeats 800000
instance : Byt Try.prog 54 5 := ⟨by kernel_rfl, by kernel_rfl⟩
/-- An iterator's value: the closure, with its box. -/
def IterB (fb T : Nat) (v : Value) : Ending → List Asrt → Prop := fun e H => ∃ Bs, e = .returned (.func (.func fb) #[] [.pointer (some ⟨Bs, 0, none⟩)].toArray) ∧ H = [blk Bs [v] T]
section
variable {c : Cx} {l : TL} {H : List Asrt} {Q : Exit → Act → World → Prop} {X : Act → World → Prop} {ty : TypeId} {pos : String} {af : Array Edge} {d : Nat}
theorem J.iterB {P : Program} {f fb T : Nat} {v : Value} [i : Eng.Enters P f] {xs : List Operand} {ts : Array TypeId} {vs : List Value} (hS : ∀ w, CSpec P f vs [] w (IterB fb T v)) (hd : Nat.blt d c.n = true) (hx : evs l xs = some vs)
    (K : ∀ Bs, J c ((d, .func (.func fb) #[] [.pointer (some ⟨Bs, 0, none⟩)].toArray) :: l) (blk Bs [v] T :: H) X) : J c l H (OW P Q ⟨some d, .call ⟨.value (.func f), xs.toArray, ts⟩, ty, pos, af, none⟩ X) :=
  J.call hd hx .nil (fun w _ => hS w) (fun v H3 ⟨Bs, h1, h2⟩ => by cases h1; subst h2; exact K Bs) (fun ch H3 ⟨Bs, h1, _⟩ => by cases h1) (fun H3 ⟨Bs, h1, _⟩ => by cases h1)
end
theorem backward_byte (ao : Option Addr) (n cap : Nat) (w : World) : CSpec Try.prog 108 [.slice ao n cap] [] w (IterB 127 54 (.slice ao n cap)) := by
  refine spec_of Try.func108 rfl Try.ntmps108 rfl (l0 := [(0, .slice ao n cap)]) rfl ?_
  intro fp
  repeat' first
    | refine J.one ?_
    | refine J.loudS ?_
    | (refine J.loudQ ?_; intro _ _)
    | (refine J.loudB ?_; intro _)
    | (with_reducible apply J.list)
    | ((with_reducible apply J.gsplit); exact rfl; exact rfl)
    | ((with_reducible first | apply J.cond | apply JC.cond); exact rfl)
    | (intro h; exfalso; (first | (simp at h; done) | (simp at h; omega)))
    | (intro h; (try simp only [decide_eq_true_eq, decide_eq_false_iff_not, beq_iff_eq, beq_eq_false_iff_ne, Bool.not_eq_true', Bool.not_eq_false', bne_iff_ne, bne_eq_false_iff_eq, ne_eq, ge_iff_le, gt_iff_lt] at h))
    | (with_reducible apply J.gave')
    | ((with_reducible apply J.kept'); rotate_left; (repeat (first | (with_reducible exact Outs.nil) | ((with_reducible apply Outs.cons); (repeat (first | with_reducible exact Out.here | with_reducible apply Out.there))))))
  all_goals ((rename_i Bs; exact J.post ⟨Bs, rfl, rfl⟩ (.cons .here .nil)))
theorem backward_uint64 (ao : Option Addr) (n cap : Nat) (w : World) : CSpec Try.prog 58 [.slice ao n cap] [] w (IterB 95 122 (.slice ao n cap)) := by
  refine spec_of Try.func58 rfl Try.ntmps58 rfl (l0 := [(0, .slice ao n cap)]) rfl ?_
  intro fp
  repeat' first
    | refine J.one ?_
    | refine J.loudS ?_
    | (refine J.loudQ ?_; intro _ _)
    | (refine J.loudB ?_; intro _)
    | (with_reducible apply J.list)
    | ((with_reducible apply J.gsplit); exact rfl; exact rfl)
    | ((with_reducible first | apply J.cond | apply JC.cond); exact rfl)
    | (intro h; exfalso; (first | (simp at h; done) | (simp at h; omega)))
    | (intro h; (try simp only [decide_eq_true_eq, decide_eq_false_iff_not, beq_iff_eq, beq_eq_false_iff_ne, Bool.not_eq_true', Bool.not_eq_false', bne_iff_ne, bne_eq_false_iff_eq, ne_eq, ge_iff_le, gt_iff_lt] at h))
    | (with_reducible apply J.gave')
    | ((with_reducible apply J.kept'); rotate_left; (repeat (first | (with_reducible exact Outs.nil) | ((with_reducible apply Outs.cons); (repeat (first | with_reducible exact Out.here | with_reducible apply Out.there))))))
  all_goals ((rename_i Bs; exact J.post ⟨Bs, rfl, rfl⟩ (.cons .here .nil)))
theorem backward_int (ao : Option Addr) (n cap : Nat) (w : World) : CSpec Try.prog 142 [.slice ao n cap] [] w (IterB 148 191 (.slice ao n cap)) := by
  refine spec_of Try.func142 rfl Try.ntmps142 rfl (l0 := [(0, .slice ao n cap)]) rfl ?_
  intro fp
  repeat' first
    | refine J.one ?_
    | refine J.loudS ?_
    | (refine J.loudQ ?_; intro _ _)
    | (refine J.loudB ?_; intro _)
    | (with_reducible apply J.list)
    | ((with_reducible apply J.gsplit); exact rfl; exact rfl)
    | ((with_reducible first | apply J.cond | apply JC.cond); exact rfl)
    | (intro h; exfalso; (first | (simp at h; done) | (simp at h; omega)))
    | (intro h; (try simp only [decide_eq_true_eq, decide_eq_false_iff_not, beq_iff_eq, beq_eq_false_iff_ne, Bool.not_eq_true', Bool.not_eq_false', bne_iff_ne, bne_eq_false_iff_eq, ne_eq, ge_iff_le, gt_iff_lt] at h))
    | (with_reducible apply J.gave')
    | ((with_reducible apply J.kept'); rotate_left; (repeat (first | (with_reducible exact Outs.nil) | ((with_reducible apply Outs.cons); (repeat (first | with_reducible exact Out.here | with_reducible apply Out.there))))))
  all_goals ((rename_i Bs; exact J.post ⟨Bs, rfl, rfl⟩ (.cons .here .nil)))
theorem sizes {size : Nat} (h : size ≤ 8) : imin (imax (size : Int) 0) 8 = (size : Int) := by unfold imin imax; split <;> split <;> omega
/-- The octets that are there with k rounds to go. -/
def part (n size k : Nat) (j : Nat) : Value := if k ≤ j then .int .u8 ((n / 256 ^ (size - 1 - j) % 256 : Nat) : Int) else .int .u8 0
theorem part_put {n size k : Nat} (hk : k < size) : tab (fun j => if j = k then Value.int .u8 ((n / 256 ^ (size - (k + 1)) % 256 : Nat) : Int) else part n size (k + 1) j) size = tab (part n size k) size := by
  refine tab_same fun j hj => ?_
  unfold part
  by_cases h : j = k
  · subst h
    rw [if_pos rfl, if_pos (Nat.le_refl _)]
    congr 5
    omega
  · rw [if_neg h]
    by_cases h2 : k ≤ j
    · rw [if_pos (by omega), if_pos h2]
    · rw [if_neg (by omega), if_neg h2]
theorem wr8 {n : Nat} : IntKind.u8.wrap (n : Int) = ((n % 256 : Nat) : Int) := by
  simp [IntKind.wrap, IntKind.signed, IntKind.bits]
theorem shr8 {n size k : Nat} (hk : k < size) : ((n / 256 ^ (size - (k + 1)) : Nat) : Int).fdiv (2 ^ 8) = ((n / 256 ^ (size - k) : Nat) : Int) := by
  rw [Int.fdiv_eq_ediv_of_nonneg _ (by decide)]
  have e : size - k = size - (k + 1) + 1 := by omega
  rw [e, Nat.pow_succ, ← Nat.div_div_eq_div_mul]
  generalize n / 256 ^ (size - (k + 1)) = q
  omega
theorem divs (n k : Nat) : n / 256 ^ k ≤ n := Nat.div_le_self _ _
theorem num_ (n size : Nat) (w : World) (hw : n ≤ 9223372036854775807 ∧ size ≤ 8) : CSpec Try.prog 78 [.int .i64 (n : Int), .int .i64 (size : Int)] [] w (Fresh 5 1 size (bcs (num n size)) []) := by
  have hdv := fun k => divs n k
  refine spec_ownM Try.func78 rfl Try.ntmps78 rfl (l0 := [(0, .int .i64 (n : Int)), (1, .int .i64 (size : Int))]) rfl ?_
  refine J.noPanic ?_
  repeat' first
    | (refine J.qv ?_; (with_reducible apply exq); focus (first
      | ((with_reducible apply Qv.shr); exact rfl; exact rfl; (first | decide | omega); exact shr8 hk)
      | ((with_reducible apply Qv.conv); exact rfl; exact wr8)
      | ((with_reducible apply Qv.indexBlk (b := b)); exact rfl; exact rfl; (constructor <;> omega); exact rfl)))
    | ((with_reducible apply J.makeSlice (len := size)); exact rfl; exact rfl; exact rfl; exact sizes hw.2; exact sizes hw.2; omega; decide; intro _)
    | ((with_reducible apply J.store1); exact rfl; exact rfl; exact rfl; (repeat (first | with_reducible exact Upd.here | with_reducible apply Upd.there)); exact tab_put (k := k) (by simp) hk; (rw [tab_length]; omega))
    | ((with_reducible apply J.iterB (backward_byte _ _ _)); exact rfl; exact rfl; intro _)
    | refine J.one ?_
    | refine J.loudS ?_
    | (refine J.loudQ ?_; intro _ _)
    | (refine J.loudB ?_; intro _)
    | (with_reducible apply J.list)
    | ((with_reducible apply J.gsplit); exact rfl; exact rfl)
    | ((with_reducible first | apply J.cond | apply JC.cond); exact rfl)
    | (intro h; exfalso; fail)
    | (intro h; (try simp only [decide_eq_true_eq, decide_eq_false_iff_not, beq_iff_eq, beq_eq_false_iff_ne, Bool.not_eq_true', Bool.not_eq_false', bne_iff_ne, bne_eq_false_iff_eq, ne_eq, ge_iff_le, gt_iff_lt] at h))
    | (with_reducible apply J.gave')
    | ((with_reducible apply J.kept'); rotate_left; (repeat (first | (with_reducible exact Outs.nil) | ((with_reducible apply Outs.cons); (repeat (first | with_reducible exact Out.here | with_reducible apply Out.there))))))
  rename_i p2 b p5 Bs
  have e0 : n = n / 256 ^ (size - size) := by simp
  have e1 : tab (fun _ => Value.int .u8 0) size = tab (part n size size) size := tab_same fun j hj => by unfold part; rw [if_neg (by omega)]
  rw [e1]
  apply J.reB (b := p2) (C' := [.int .i64 ((n / 256 ^ (size - size) : Nat) : Int)])
  · (repeat (first | with_reducible exact Upd.here | with_reducible apply Upd.there))
  · rw [← e0]
  apply J.rangeG (ps := [13, 14]) (back_byte Bs b size size (fun _ => 0) (by simp only [maxLen]; omega)) (fun _ (_ : Unit) => True) (fun k _ => [blk b (tab (part n size k) size) 5, blk p5 [.slice (some ⟨b, 0, none⟩) size size] 54, blk p2 [.int .i64 ((n / 256 ^ (size - k) : Nat) : Int)] 3, blk Bs [.slice (some ⟨b, 0, none⟩) size size] 54]) [falseA] (fun k => [(6, .int .i64 (k : Int)), (5, .pointer (some ⟨p5, 0, none⟩)), (2, .pointer (some ⟨p2, 0, none⟩))]) ()
  case hg => rfl
  case hps => rfl
  case hlen => exact fun k => rfl
  case hF => exact fun k _ W _ s => ⟨s.cell (.tail _ (.tail _ (.tail _ (.head _)))) rfl, fun j hj hlt => s.cell (.head _) (by subst hj; rw [tab_get hlt]; unfold part; rw [if_neg (by omega)])⟩
  case hI => trivial
  case ho => ((try dsimp only); (repeat (first | (with_reducible exact Outs.nil) | ((with_reducible apply Outs.cons); (repeat (first | with_reducible exact Out.here | with_reducible apply Out.there))))))
  case hm => kernel_rfl
  case hka => rfl
  case hkb => rfl
  case hassign =>
    intro k A
    try dsimp only [putSl]
    repeat' first
      | (refine J.qv ?_; (with_reducible apply exq); focus (first
        | ((with_reducible apply Qv.shr); exact rfl; exact rfl; (first | decide | omega); exact shr8 hk)
        | ((with_reducible apply Qv.conv); exact rfl; exact wr8)
        | ((with_reducible apply Qv.indexBlk (b := b)); exact rfl; exact rfl; (constructor <;> omega); exact rfl)))
      | ((with_reducible apply J.makeSlice (len := size)); exact rfl; exact rfl; exact rfl; exact sizes hw.2; exact sizes hw.2; omega; decide; intro _)
      | ((with_reducible apply J.store1); exact rfl; exact rfl; exact rfl; (repeat (first | with_reducible exact Upd.here | with_reducible apply Upd.there)); exact tab_put (k := k) (by simp) hk; (rw [tab_length]; omega))
      | ((with_reducible apply J.iterB (backward_byte _ _ _)); exact rfl; exact rfl; intro _)
      | refine J.one ?_
      | refine J.loudS ?_
      | (refine J.loudQ ?_; intro _ _)
      | (refine J.loudB ?_; intro _)
      | (with_reducible apply J.list)
      | ((with_reducible apply J.gsplit); exact rfl; exact rfl)
      | ((with_reducible first | apply J.cond | apply JC.cond); exact rfl)
      | (intro h; exfalso; fail)
      | (intro h; (try simp only [decide_eq_true_eq, decide_eq_false_iff_not, beq_iff_eq, beq_eq_false_iff_ne, Bool.not_eq_true', Bool.not_eq_false', bne_iff_ne, bne_eq_false_iff_eq, ne_eq, ge_iff_le, gt_iff_lt] at h))
      | (with_reducible apply J.gave')
      | ((with_reducible apply J.kept'); rotate_left; (repeat (first | (with_reducible exact Outs.nil) | ((with_reducible apply Outs.cons); (repeat (first | with_reducible exact Out.here | with_reducible apply Out.there))))))
    all_goals ((try dsimp only); apply J.stE; ((try dsimp only); repeat (first | exact sub.nil _ | (refine sub.consE rfl ?_ ?_; (first | with_reducible rfl | (fail) | rfl)))))
  case hbody =>
    rintro ll D rc k ⟨⟩ hk _
    try dsimp only at *
    repeat' first
      | (refine J.qv ?_; (with_reducible apply exq); focus (first
        | ((with_reducible apply Qv.shr); exact rfl; exact rfl; (first | decide | omega); exact shr8 hk)
        | ((with_reducible apply Qv.conv); exact rfl; exact wr8)
        | ((with_reducible apply Qv.indexBlk (b := b)); exact rfl; exact rfl; (constructor <;> omega); exact rfl)))
      | ((with_reducible apply J.makeSlice (len := size)); exact rfl; exact rfl; exact rfl; exact sizes hw.2; exact sizes hw.2; omega; decide; intro _)
      | ((with_reducible apply J.store1); exact rfl; exact rfl; exact rfl; (repeat (first | with_reducible exact Upd.here | with_reducible apply Upd.there)); exact tab_put (k := k) (by simp) hk; (rw [tab_length]; omega))
      | ((with_reducible apply J.iterB (backward_byte _ _ _)); exact rfl; exact rfl; intro _)
      | refine J.one ?_
      | refine J.loudS ?_
      | (refine J.loudQ ?_; intro _ _)
      | (refine J.loudB ?_; intro _)
      | (with_reducible apply J.list)
      | ((with_reducible apply J.gsplit); exact rfl; exact rfl)
      | ((with_reducible first | apply J.cond | apply JC.cond); exact rfl)
      | (intro h; exfalso; fail)
      | (intro h; (try simp only [decide_eq_true_eq, decide_eq_false_iff_not, beq_iff_eq, beq_eq_false_iff_ne, Bool.not_eq_true', Bool.not_eq_false', bne_iff_ne, bne_eq_false_iff_eq, ne_eq, ge_iff_le, gt_iff_lt] at h))
      | (with_reducible apply J.gave')
      | ((with_reducible apply J.kept'); rotate_left; (repeat (first | (with_reducible exact Outs.nil) | ((with_reducible apply Outs.cons); (repeat (first | with_reducible exact Out.here | with_reducible apply Out.there))))))
    all_goals
      first
      | (rw [part_put hk]
         apply J.lvN () trivial
         (dsimp only [List.cons_append, List.nil_append]; (repeat (first | (with_reducible exact Outs.nil) | ((with_reducible apply Outs.cons); (repeat (first | with_reducible exact Out.here | with_reducible apply Out.there)))))))
      | (trace_state; fail)
  case hdone =>
    rintro ⟨⟩ _ D
    try dsimp only at *
    repeat' first
      | (refine J.qv ?_; (with_reducible apply exq); focus (first
        | ((with_reducible apply Qv.shr); exact rfl; exact rfl; (first | decide | omega); exact shr8 hk)
        | ((with_reducible apply Qv.conv); exact rfl; exact wr8)
        | ((with_reducible apply Qv.indexBlk (b := b)); exact rfl; exact rfl; (constructor <;> omega); exact rfl)))
      | ((with_reducible apply J.makeSlice (len := size)); exact rfl; exact rfl; exact rfl; exact sizes hw.2; exact sizes hw.2; omega; decide; intro _)
      | ((with_reducible apply J.store1); exact rfl; exact rfl; exact rfl; (repeat (first | with_reducible exact Upd.here | with_reducible apply Upd.there)); exact tab_put (k := k) (by simp) hk; (rw [tab_length]; omega))
      | ((with_reducible apply J.iterB (backward_byte _ _ _)); exact rfl; exact rfl; intro _)
      | refine J.one ?_
      | refine J.loudS ?_
      | (refine J.loudQ ?_; intro _ _)
      | (refine J.loudB ?_; intro _)
      | (with_reducible apply J.list)
      | ((with_reducible apply J.gsplit); exact rfl; exact rfl)
      | ((with_reducible first | apply J.cond | apply JC.cond); exact rfl)
      | (intro h; exfalso; fail)
      | (intro h; (try simp only [decide_eq_true_eq, decide_eq_false_iff_not, beq_iff_eq, beq_eq_false_iff_ne, Bool.not_eq_true', Bool.not_eq_false', bne_iff_ne, bne_eq_false_iff_eq, ne_eq, ge_iff_le, gt_iff_lt] at h))
      | (with_reducible apply J.gave')
      | ((with_reducible apply J.kept'); rotate_left; (repeat (first | (with_reducible exact Outs.nil) | ((with_reducible apply Outs.cons); (repeat (first | with_reducible exact Out.here | with_reducible apply Out.there))))))
    all_goals
      first
      | (exact J.freshBlk (by (repeat (first | with_reducible exact Out.here | with_reducible apply Out.there))) (by rw [num_tab]; refine tab_same fun j hj => ?_; unfold part; rw [if_pos (Nat.zero_le _)]) (by rw [bcs_length, num_length]; omega) (by simp only [maxLen]; omega))
      | (trace_state; fail)
  case hstop =>
    intro D
    exact J.absurd_ (.there .here)
theorem imin7 {n : Nat} (h : n ≤ 7) : imin (n : Int) 7 = (n : Int) := by unfold imin; split <;> omega
theorem shl8 {a : Nat} (h : a < 281474976710656) : IntKind.i64.wrap ((a : Int) * 2 ^ (min (8 : Int).toNat IntKind.i64.bits)) = ((a * 2 ^ 8 : Nat) : Int) := by
  have e : min (8 : Int).toNat IntKind.i64.bits = 8 := by decide
  rw [e]
  exact wr64 (by omega) (by omega) (by omega)
theorem int_ (ao : Option Addr) (n cap : Nat) (l : List UInt8) (w : World) (hw : Rd w ao (bcs l) ∧ n = l.length ∧ n ≤ cap ∧ l.length ≤ 7) : CSpec Try.prog 110 [.slice ao n cap] [] w (Gives (.int .i64 (be l : Int))) := by
  obtain ⟨hr, rfl, hc, h7⟩ := hw
  refine spec_own0 Try.func110 rfl Try.ntmps110 rfl (l0 := [(0, .slice ao l.length cap)]) rfl ?_
  repeat' first
    | (refine J.qv ?_; (with_reducible apply exq); focus (first
      | ((with_reducible apply Qv.sliceTo (k := l.length)); exact rfl; exact rfl; exact imin7 h7; exact hc)
      | ((with_reducible apply Qv.shl); exact rfl; exact rfl; decide; exact shl8 (be_48 (by omega)))
      | ((with_reducible apply Qv.or); exact rfl; exact rfl)))
    | (refine J.qr ?_; (with_reducible apply exq); focus (first
      | ((with_reducible apply Qr.indexRd (k := i) (C := bcs l)); exact rfl; exact rfl; exact rfl; (first | omega | (rw [bcs_length] at *; omega)); exact RH.old hr; (rw [bcs_length]; omega))
      | ((with_reducible apply Qr.rd1 (C := bcs l)); exact rfl; exact RH.old hr; (rw [Nat.mul_one]; exact bcs_get (oc_get (by omega))))))
    | refine J.one ?_
    | refine J.loudS ?_
    | (refine J.loudQ ?_; intro _ _)
    | (refine J.loudB ?_; intro _)
    | (with_reducible apply J.list)
    | ((with_reducible apply J.gsplit); exact rfl; exact rfl)
    | ((with_reducible first | apply J.cond | apply JC.cond); exact rfl)
    | (intro h; exfalso; (first | (simp at h; done) | (simp at h; omega) | omega))
    | (intro h; (try simp only [decide_eq_true_eq, decide_eq_false_iff_not, beq_iff_eq, beq_eq_false_iff_ne, Bool.not_eq_true', Bool.not_eq_false', bne_iff_ne, bne_eq_false_iff_eq, ne_eq, ge_iff_le, gt_iff_lt] at h))
    | (with_reducible apply J.gave')
    | ((with_reducible apply J.kept'); rotate_left; (repeat (first | (with_reducible exact Outs.nil) | ((with_reducible apply Outs.cons); (repeat (first | with_reducible exact Out.here | with_reducible apply Out.there))))))
  apply J.loopI (σ := Nat) (I := fun q => (q ≤ l.length)) (L := fun q => [(10, .slice ao l.length cap), (11, .int .i64 (l.length : Int)), (12, .int .i64 (q : Int)), (3, .int .i64 (be (l.take q) : Int))]) (HH := fun q => []) (m := fun q => l.length - q) (s0 := 0)
  · ((try dsimp only); (exact Nat.zero_le _))
  · ((try dsimp only); repeat (first | exact sub.nil _ | (refine sub.consE rfl ?_ ?_; (first | with_reducible rfl | (fail) | rfl))))
  · ((try dsimp only); (repeat (first | (with_reducible exact Outs.nil) | ((with_reducible apply Outs.cons); (repeat (first | with_reducible exact Out.here | with_reducible apply Out.there))))))
  rintro i hI
  try dsimp only at hI ⊢
  have hb := (oc l i).toNat_lt
  repeat' first
    | (refine J.qv ?_; (with_reducible apply exq); focus (first
      | ((with_reducible apply Qv.sliceTo (k := l.length)); exact rfl; exact rfl; exact imin7 h7; exact hc)
      | ((with_reducible apply Qv.shl); exact rfl; exact rfl; decide; exact shl8 (be_48 (by omega)))
      | ((with_reducible apply Qv.or); exact rfl; exact rfl)))
    | (refine J.qr ?_; (with_reducible apply exq); focus (first
      | ((with_reducible apply Qr.indexRd (k := i) (C := bcs l)); exact rfl; exact rfl; exact rfl; (first | omega | (rw [bcs_length] at *; omega)); exact RH.old hr; (rw [bcs_length]; omega))
      | ((with_reducible apply Qr.rd1 (C := bcs l)); exact rfl; exact RH.old hr; (rw [Nat.mul_one]; exact bcs_get (oc_get (by omega))))))
    | refine J.one ?_
    | refine J.loudS ?_
    | (refine J.loudQ ?_; intro _ _)
    | (refine J.loudB ?_; intro _)
    | (with_reducible apply J.list)
    | ((with_reducible apply J.gsplit); exact rfl; exact rfl)
    | ((with_reducible first | apply J.cond | apply JC.cond); exact rfl)
    | (intro h; exfalso; (first | (simp at h; done) | (simp at h; omega) | omega))
    | (intro h; (try simp only [decide_eq_true_eq, decide_eq_false_iff_not, beq_iff_eq, beq_eq_false_iff_ne, Bool.not_eq_true', Bool.not_eq_false', bne_iff_ne, bne_eq_false_iff_eq, ne_eq, ge_iff_le, gt_iff_lt] at h))
    | (with_reducible apply J.gave')
    | ((with_reducible apply J.kept'); rotate_left; (repeat (first | (with_reducible exact Outs.nil) | ((with_reducible apply Outs.cons); (repeat (first | with_reducible exact Out.here | with_reducible apply Out.there))))))
  all_goals
    first
    | (have e0 : i = l.length := by omega
       subst e0
       simp only [retv, List.take_length]
       done)
    | (rw [or_low (by have := (oc l i).toNat_lt; omega) (by have := be_48 (l := l) (i := i) (by omega); have := (oc l i).toNat_lt; omega), ← be_take (by omega)]
       (apply J.againI (s := i) (s' := (i + 1)); (focus (omega)); (focus ((try dsimp only); omega)); (focus (((try dsimp only); repeat (first | exact sub.nil _ | (refine sub.consE rfl ?_ ?_; (first | with_reducible rfl | ((focus (congr 1; omega))) | rfl)))))); ((try dsimp only); (repeat (first | (with_reducible exact Outs.nil) | ((with_reducible apply Outs.cons); (repeat (first | with_reducible exact Out.here | with_reducible apply Out.there))))))))
    | (trace_state; fail)
theorem conv_neg {n : Nat} (h1 : 1 ≤ n) (h2 : n ≤ 31) : IntKind.u64.wrap (-(n : Int)) = 18446744073709551616 - (n : Int) := by
  simp [IntKind.wrap, IntKind.signed, IntKind.bits]
  omega
theorem and31 {n : Nat} (h1 : 1 ≤ n) (h2 : n ≤ 31) : andI .u64 (18446744073709551616 - (n : Int)) 31 = ((32 - n : Nat) : Int) :=
  and_low (k := 5) (by omega) (by omega) (by decide) (by omega)
theorem sub32 {n : Nat} (h1 : 1 ≤ n) (h2 : n ≤ 31) : IntKind.u64.wrap (32 - ((32 - n : Nat) : Int)) = (n : Int) := wru64 (by omega) (by omega) (by omega)
theorem neg64 {n : Nat} (h2 : n ≤ 31) : IntKind.i64.wrap (0 - (n : Int)) = -(n : Int) := wr64 (by omega) (by omega) (by omega)
theorem rotl (x : W32) (n : Nat) (h : 1 ≤ n ∧ n ≤ 31) (w : World) : CSpec Try.prog 150 [u32 x, .int .i64 (-(n : Int))] [] w (Gives (u32 (ror x n))) := by
  refine spec_of Try.func150 rfl Try.ntmps150 rfl (l0 := [(0, u32 x), (1, .int .i64 (-(n : Int)))]) rfl ?_
  intro fp
  repeat' first
    | (refine J.qv ?_; (with_reducible apply exq); focus (first
      | ((with_reducible apply Qv.conv); exact rfl; exact conv_neg h.1 h.2)
      | ((with_reducible apply Qv.andE); exact rfl; exact rfl; exact and31 h.1 h.2)
      | ((with_reducible apply Qv.shlB (n := 32 - n)); exact rfl; exact rfl; exact rfl; omega)
      | ((with_reducible apply Qv.sub); exact rfl; exact rfl; exact sub32 h.1 h.2)
      | ((with_reducible apply Qv.shrB (n := n)); exact rfl; exact rfl; exact rfl; omega)))
    | refine J.one ?_
    | refine J.loudS ?_
    | (refine J.loudQ ?_; intro _ _)
    | (refine J.loudB ?_; intro _)
    | (with_reducible apply J.list)
    | ((with_reducible apply J.gsplit); exact rfl; exact rfl)
    | ((with_reducible first | apply J.cond | apply JC.cond); exact rfl)
    | (intro h; exfalso; (first | (simp at h; done) | (simp at h; omega)))
    | (intro h; (try simp only [decide_eq_true_eq, decide_eq_false_iff_not, beq_iff_eq, beq_eq_false_iff_ne, Bool.not_eq_true', Bool.not_eq_false', bne_iff_ne, bne_eq_false_iff_eq, ne_eq, ge_iff_le, gt_iff_lt] at h))
    | (with_reducible apply J.gave')
    | ((with_reducible apply J.kept'); rotate_left; (repeat (first | (with_reducible exact Outs.nil) | ((with_reducible apply Outs.cons); (repeat (first | with_reducible exact Out.here | with_reducible apply Out.there))))))
  all_goals (rfl)
theorem Qv.neg {P : Program} {m : Nat} {l : TL} {T : Nat} {x : Operand} {k : IntKind} {e z : Int} (hx : ev l x = some (.int k e)) (hz : k.wrap (0 - e) = z) : Qv P m l (.unOp .neg T x) (.int k z) := fun a w _ _ _ _ s => by
  rw [Int.zero_sub] at hz
  simp [execOp, s.ev hx, Op.unary, Op.intArith, hz]
theorem rotr (x : W32) (n : Nat) (h : 1 ≤ n ∧ n ≤ 31) (w : World) : CSpec Try.prog 149 [u32 x, .int .i64 (n : Int)] [] w (Gives (u32 (ror x n))) := by
  refine spec_of Try.func149 rfl Try.ntmps149 rfl (l0 := [(0, u32 x), (1, .int .i64 (n : Int))]) rfl ?_
  intro fp
  repeat' first
    | (refine J.qv ?_; (with_reducible apply exq); focus (first
      | ((with_reducible apply Qv.neg); exact rfl; exact neg64 h.2)))
    | ((with_reducible apply J.givesP (rotl _ _)); exact rfl; exact rfl; exact h)
    | refine J.one ?_
    | refine J.loudS ?_
    | (refine J.loudQ ?_; intro _ _)
    | (refine J.loudB ?_; intro _)
    | (with_reducible apply J.list)
    | ((with_reducible apply J.gsplit); exact rfl; exact rfl)
    | ((with_reducible first | apply J.cond | apply JC.cond); exact rfl)
    | (intro h; exfalso; (first | (simp at h; done) | (simp at h; omega)))
    | (intro h; (try simp only [decide_eq_true_eq, decide_eq_false_iff_not, beq_iff_eq, beq_eq_false_iff_ne, Bool.not_eq_true', Bool.not_eq_false', bne_iff_ne, bne_eq_false_iff_eq, ne_eq, ge_iff_le, gt_iff_lt] at h))
    | (with_reducible apply J.gave')
    | ((with_reducible apply J.kept'); rotate_left; (repeat (first | (with_reducible exact Outs.nil) | ((with_reducible apply Outs.cons); (repeat (first | with_reducible exact Out.here | with_reducible apply Out.there))))))
  all_goals (rfl)
theorem threeS (x : W32) (a b c : Nat) (h : 1 ≤ a ∧ a ≤ 31 ∧ 1 ≤ b ∧ b ≤ 31 ∧ 1 ≤ c ∧ c ≤ 31) (w : World) : CSpec Try.prog 145 [u32 x, .int .i64 (a : Int), .int .i64 (b : Int), .int .i64 (c : Int), .bool true] [] w (Gives (u32 (ror x a ^^^ ror x b ^^^ (x >>> c)))) := by
  refine spec_of Try.func145 rfl Try.ntmps145 rfl (l0 := [(0, u32 x), (1, .int .i64 (a : Int)), (2, .int .i64 (b : Int)), (3, .int .i64 (c : Int)), (4, .bool true)]) rfl ?_
  intro fp
  repeat' first
    | (refine J.qv ?_; (with_reducible apply exq); focus (first
      | ((with_reducible apply Qv.shrB); exact rfl; exact rfl; exact rfl; omega)))
    | ((with_reducible apply J.givesP (rotr _ _)); exact rfl; exact rfl; omega)
    | refine J.one ?_
    | refine J.loudS ?_
    | (refine J.loudQ ?_; intro _ _)
    | (refine J.loudB ?_; intro _)
    | (with_reducible apply J.list)
    | ((with_reducible apply J.draw (id := 2) [0, 0, 3, 0, 0, 31, 63, 0, 0, 384, 1023, 2047] (.p 0 (.p 1 (.p 3 (.p 4 (.p 7 (.p 8 (.p 9 (.x 2 (.x 5 (.p 6 (.p 10 (.p 11 .nil))) .none) .none)))))))) (by kernel_rfl) ?_ (by kernel_rfl) ?_); (repeat (with_reducible first | exact PanicFree.body | exact PanicFree.np | exact PanicFree.lvS | apply PanicFree.then_ | apply PanicFree.blk)))
    | ((with_reducible apply J.pl2); exact rfl; (first | exact Gd.none | ((with_reducible apply Gd.on); exact rfl; exact rfl)); (repeat (first | (with_reducible exact PendF.nil) | ((with_reducible apply PendF.keep); exact rfl) | ((with_reducible apply PendF.gone); exact rfl))))
    | ((with_reducible apply J.pl2_off); exact rfl; ((with_reducible apply Gd.off); exact rfl; exact rfl; exact rfl); exact rfl; (repeat (first | (with_reducible exact PendF.nil) | ((with_reducible apply PendF.keep); exact rfl) | ((with_reducible apply PendF.gone); exact rfl))))
    | ((with_reducible apply J.pl2_off_none); exact rfl; ((with_reducible apply Gd.off); exact rfl; exact rfl; exact rfl); (repeat (first | (with_reducible exact PendF.nil) | ((with_reducible apply PendF.keep); exact rfl) | ((with_reducible apply PendF.gone); exact rfl))))
    | ((with_reducible first | apply J.psplit0 | apply J.psplit1 | apply J.psplit2); exact rfl; exact rfl; exact rfl)
    | (with_reducible exact J.pl_none)
    | ((with_reducible apply J.gsplit); exact rfl; exact rfl)
    | ((with_reducible first | apply J.cond | apply JC.cond); exact rfl)
    | (intro h; exfalso; (first | (simp at h; done) | (simp at h; omega)))
    | (intro h; (try simp only [decide_eq_true_eq, decide_eq_false_iff_not, beq_iff_eq, beq_eq_false_iff_ne, Bool.not_eq_true', Bool.not_eq_false', bne_iff_ne, bne_eq_false_iff_eq, ne_eq, ge_iff_le, gt_iff_lt] at h))
    | (with_reducible apply J.gave')
    | ((with_reducible apply J.kept'); rotate_left; (repeat (first | (with_reducible exact Outs.nil) | ((with_reducible apply Outs.cons); (repeat (first | with_reducible exact Out.here | with_reducible apply Out.there))))))
  all_goals (rfl)
theorem threeT (x : W32) (a b c : Nat) (h : 1 ≤ a ∧ a ≤ 31 ∧ 1 ≤ b ∧ b ≤ 31 ∧ 1 ≤ c ∧ c ≤ 31) (w : World) : CSpec Try.prog 145 [u32 x, .int .i64 (a : Int), .int .i64 (b : Int), .int .i64 (c : Int), .bool false] [] w (Gives (u32 (ror x a ^^^ ror x b ^^^ ror x c))) := by
  refine spec_of Try.func145 rfl Try.ntmps145 rfl (l0 := [(0, u32 x), (1, .int .i64 (a : Int)), (2, .int .i64 (b : Int)), (3, .int .i64 (c : Int)), (4, .bool false)]) rfl ?_
  intro fp
  repeat' first
    | (refine J.qv ?_; (with_reducible apply exq); focus (first
      | ((with_reducible apply Qv.shrB); exact rfl; exact rfl; exact rfl; omega)))
    | ((with_reducible apply J.givesP (rotr _ _)); exact rfl; exact rfl; omega)
    | refine J.one ?_
    | refine J.loudS ?_
    | (refine J.loudQ ?_; intro _ _)
    | (refine J.loudB ?_; intro _)
    | (with_reducible apply J.list)
    | ((with_reducible apply J.draw (id := 2) [0, 0, 3, 0, 0, 31, 63, 0, 0, 384, 1023, 2047] (.p 0 (.p 1 (.p 3 (.p 4 (.p 7 (.p 8 (.p 9 (.x 2 (.x 5 (.p 6 (.p 10 (.p 11 .nil))) .none) .none)))))))) (by kernel_rfl) ?_ (by kernel_rfl) ?_); (repeat (with_reducible first | exact PanicFree.body | exact PanicFree.np | exact PanicFree.lvS | apply PanicFree.then_ | apply PanicFree.blk)))
    | ((with_reducible apply J.pl2); exact rfl; (first | exact Gd.none | ((with_reducible apply Gd.on); exact rfl; exact rfl)); (repeat (first | (with_reducible exact PendF.nil) | ((with_reducible apply PendF.keep); exact rfl) | ((with_reducible apply PendF.gone); exact rfl))))
    | ((with_reducible apply J.pl2_off); exact rfl; ((with_reducible apply Gd.off); exact rfl; exact rfl; exact rfl); exact rfl; (repeat (first | (with_reducible exact PendF.nil) | ((with_reducible apply PendF.keep); exact rfl) | ((with_reducible apply PendF.gone); exact rfl))))
    | ((with_reducible apply J.pl2_off_none); exact rfl; ((with_reducible apply Gd.off); exact rfl; exact rfl; exact rfl); (repeat (first | (with_reducible exact PendF.nil) | ((with_reducible apply PendF.keep); exact rfl) | ((with_reducible apply PendF.gone); exact rfl))))
    | ((with_reducible first | apply J.psplit0 | apply J.psplit1 | apply J.psplit2); exact rfl; exact rfl; exact rfl)
    | (with_reducible exact J.pl_none)
    | ((with_reducible apply J.gsplit); exact rfl; exact rfl)
    | ((with_reducible first | apply J.cond | apply JC.cond); exact rfl)
    | (intro h; exfalso; (first | (simp at h; done) | (simp at h; omega)))
    | (intro h; (try simp only [decide_eq_true_eq, decide_eq_false_iff_not, beq_iff_eq, beq_eq_false_iff_ne, Bool.not_eq_true', Bool.not_eq_false', bne_iff_ne, bne_eq_false_iff_eq, ne_eq, ge_iff_le, gt_iff_lt] at h))
    | (with_reducible apply J.gave')
    | ((with_reducible apply J.kept'); rotate_left; (repeat (first | (with_reducible exact Outs.nil) | ((with_reducible apply Outs.cons); (repeat (first | with_reducible exact Out.here | with_reducible apply Out.there))))))
  all_goals (rfl)
theorem begin_  (w : World) : CSpec Try.prog 133 [] [] w (Gives (.agg (st8 st0).toArray)) := by
  refine spec_of Try.func133 rfl Try.ntmps133 rfl (l0 := []) rfl ?_
  intro fp
  repeat' first
    | refine J.one ?_
    | refine J.loudS ?_
    | (refine J.loudQ ?_; intro _ _)
    | (refine J.loudB ?_; intro _)
    | (with_reducible apply J.list)
    | ((with_reducible apply J.gsplit); exact rfl; exact rfl)
    | ((with_reducible first | apply J.cond | apply JC.cond); exact rfl)
    | (intro h; exfalso; (first | (simp at h; done) | (simp at h; omega)))
    | (intro h; (try simp only [decide_eq_true_eq, decide_eq_false_iff_not, beq_iff_eq, beq_eq_false_iff_ne, Bool.not_eq_true', Bool.not_eq_false', bne_iff_ne, bne_eq_false_iff_eq, ne_eq, ge_iff_le, gt_iff_lt] at h))
    | (with_reducible apply J.gave')
    | ((with_reducible apply J.kept'); rotate_left; (repeat (first | (with_reducible exact Outs.nil) | ((with_reducible apply Outs.cons); (repeat (first | with_reducible exact Out.here | with_reducible apply Out.there))))))
  all_goals (rfl)
theorem keys_  (w : World) : CSpec Try.prog 134 [] [] w (Gives (.agg (tab (fun j => u32 (kw j)) 64).toArray)) := by
  refine spec_of Try.func134 rfl Try.ntmps134 rfl (l0 := []) rfl ?_
  intro fp
  repeat' first
    | refine J.one ?_
    | refine J.loudS ?_
    | (refine J.loudQ ?_; intro _ _)
    | (refine J.loudB ?_; intro _)
    | (with_reducible apply J.list)
    | ((with_reducible apply J.gsplit); exact rfl; exact rfl)
    | ((with_reducible first | apply J.cond | apply JC.cond); exact rfl)
    | (intro h; exfalso; (first | (simp at h; done) | (simp at h; omega)))
    | (intro h; (try simp only [decide_eq_true_eq, decide_eq_false_iff_not, beq_iff_eq, beq_eq_false_iff_ne, Bool.not_eq_true', Bool.not_eq_false', bne_iff_ne, bne_eq_false_iff_eq, ne_eq, ge_iff_le, gt_iff_lt] at h))
    | (with_reducible apply J.gave')
    | ((with_reducible apply J.kept'); rotate_left; (repeat (first | (with_reducible exact Outs.nil) | ((with_reducible apply Outs.cons); (repeat (first | with_reducible exact Out.here | with_reducible apply Out.there))))))
  all_goals (kernel_rfl)
theorem round_ (s : Nat → W32) (k : W32) (w : World) : CSpec Try.prog 138 [.agg (st8 s).toArray, u32 k] [] w (Gives (.agg (st8 (rnd1 s k)).toArray)) := by
  refine spec_of Try.func138 rfl Try.ntmps138 rfl (l0 := [(0, .agg (st8 s).toArray), (1, u32 k)]) rfl ?_
  intro fp
  repeat' first
    | ((with_reducible apply J.givesP (threeS _ _ _ _)); exact rfl; exact rfl; decide)
    | ((with_reducible apply J.givesP (threeT _ _ _ _)); exact rfl; exact rfl; decide)
    | refine J.one ?_
    | refine J.loudS ?_
    | (refine J.loudQ ?_; intro _ _)
    | (refine J.loudB ?_; intro _)
    | (with_reducible apply J.list)
    | ((with_reducible apply J.draw (id := 2) [0, 1, 0, 4, 15, 0, 0, 64, 224, 0, 512, 0, 2048, 7680, 16352, 32767, 0, 131071, 262143] (.p 0 (.q 1 (.p 2 (.p 5 (.p 6 (.q 7 (.p 8 (.p 9 (.p 10 (.p 11 (.q 12 (.p 13 (.p 14 (.p 16 (.x 3 (.p 4 (.p 15 (.p 17 (.p 18 .nil)))) .none))))))))))))))) (by kernel_rfl) ?_ (by kernel_rfl) ?_); (repeat (with_reducible first | exact PanicFree.body | exact PanicFree.np | exact PanicFree.lvS | apply PanicFree.then_ | apply PanicFree.blk)))
    | ((with_reducible apply J.draw (id := 3) [0, 1, 3, 0, 8, 0, 32, 120, 0, 256, 0, 1024, 3840, 8184, 0, 16384, 0, 65536, 245760, 524280, 1048575, 2097151] (.p 0 (.q 1 (.p 3 (.q 4 (.p 5 (.q 6 (.p 7 (.p 8 (.q 9 (.p 10 (.q 11 (.p 12 (.p 13 (.p 14 (.q 15 (.p 16 (.q 17 (.p 18 (.p 19 (.x 2 (.p 20 (.p 21 .nil)) .none)))))))))))))))))))) (by kernel_rfl) ?_ (by kernel_rfl) ?_); (repeat (with_reducible first | exact PanicFree.body | exact PanicFree.np | exact PanicFree.lvS | apply PanicFree.then_ | apply PanicFree.blk)))
    | ((with_reducible apply J.pl2); exact rfl; (first | exact Gd.none | ((with_reducible apply Gd.on); exact rfl; exact rfl)); (repeat (first | (with_reducible exact PendF.nil) | ((with_reducible apply PendF.keep); exact rfl) | ((with_reducible apply PendF.gone); exact rfl))))
    | ((with_reducible apply J.pl2_off); exact rfl; ((with_reducible apply Gd.off); exact rfl; exact rfl; exact rfl); exact rfl; (repeat (first | (with_reducible exact PendF.nil) | ((with_reducible apply PendF.keep); exact rfl) | ((with_reducible apply PendF.gone); exact rfl))))
    | ((with_reducible apply J.pl2_off_none); exact rfl; ((with_reducible apply Gd.off); exact rfl; exact rfl; exact rfl); (repeat (first | (with_reducible exact PendF.nil) | ((with_reducible apply PendF.keep); exact rfl) | ((with_reducible apply PendF.gone); exact rfl))))
    | ((with_reducible first | apply J.psplit0 | apply J.psplit1 | apply J.psplit2); exact rfl; exact rfl; exact rfl)
    | (with_reducible exact J.pl_none)
    | ((with_reducible apply J.gsplit); exact rfl; exact rfl)
    | ((with_reducible first | apply J.cond | apply JC.cond); exact rfl)
    | (intro h; exfalso; (first | (simp at h; done) | (simp at h; omega)))
    | (intro h; (try simp only [decide_eq_true_eq, decide_eq_false_iff_not, beq_iff_eq, beq_eq_false_iff_ne, Bool.not_eq_true', Bool.not_eq_false', bne_iff_ne, bne_eq_false_iff_eq, ne_eq, ge_iff_le, gt_iff_lt] at h))
    | (with_reducible apply J.gave')
    | ((with_reducible apply J.kept'); rotate_left; (repeat (first | (with_reducible exact Outs.nil) | ((with_reducible apply Outs.cons); (repeat (first | with_reducible exact Out.here | with_reducible apply Out.there))))))
  all_goals (rfl)
/-- The words with so many of them read. -/
def wpart (l : List UInt8) (i j : Nat) : W32 := if j < i then word l j else 0
theorem wpart_put {l : List UInt8} {i : Nat} {z : W32} (hi : i < 16) (hz : z = word l i) : tab (fun j => if j = i then u32 z else u32 (wpart l i j)) 64 = tab (fun j => u32 (wpart l (i + 1) j)) 64 := by
  subst hz
  refine tab_same fun j hj => ?_
  unfold wpart
  by_cases h : j = i
  · subst h; rw [if_pos rfl, if_pos (by omega)]
  · rw [if_neg h]
    by_cases h2 : j < i
    · rw [if_pos h2, if_pos (by omega)]
    · rw [if_neg h2, if_neg (by omega)]
theorem wpart_all (l : List UInt8) : tab (fun j => u32 (wpart l 16 j)) 64 = tab (fun j => u32 (sch l 0 j)) 64 := tab_same fun j hj => rfl
theorem sch_put {l : List UInt8} {n : Nat} {z : W32} (hz : z = lo1 (sch l n (n + 14)) + sch l n (n + 9) + lo0 (sch l n (n + 1)) + sch l n n) : tab (fun j => if j = n + 16 then u32 z else u32 (sch l n j)) 64 = tab (fun j => u32 (sch l (n + 1) j)) 64 := by
  subst hz
  refine tab_same fun j hj => ?_
  simp only [sch]
  split <;> rfl
theorem word_of {l : List UInt8} {i : Nat} : BitVec.ofInt 32 ((be ((l.drop (4 * i * 1)).take 4) : Nat) : Int) = word l i := by
  rw [Nat.mul_one, BitVec.ofInt_natCast]
  rfl
theorem zero64 : [Value.int .u32 0, .int .u32 0] = [Value.int .u32 0, .int .u32 0] := rfl
theorem zeros64 (l : List UInt8) : List.replicate 64 (Value.int .u32 0) = tab (fun j => u32 (wpart l 0 j)) 64 := by
  refine tab_eq (by simp) fun k hk => ?_
  rw [List.getElem?_replicate, if_pos hk]
  rfl
theorem schedule_ (ao : Option Addr) (cap : Nat) (l : List UInt8) (w : World) (hw : Rd w ao (bcs l) ∧ l.length = 64 ∧ 64 ≤ cap) : CSpec Try.prog 137 [.slice ao 64 cap] [] w (Gives (.agg (tab (fun j => u32 (sch l 48 j)) 64).toArray)) := by
  obtain ⟨hr, hl, hc⟩ := hw
  refine spec_own0 Try.func137 rfl Try.ntmps137 rfl (l0 := [(0, .slice ao 64 cap)]) rfl ?_
  repeat' first
    | refine J.one ?_
    | refine J.loudS ?_
    | (refine J.loudQ ?_; intro _ _)
    | (refine J.loudB ?_; intro _)
    | (with_reducible apply J.list)
    | ((with_reducible apply J.draw (id := 10) [0, 0, 2, 6, 14, 30, 0, 64, 192, 448, 1022, 0, 2048, 6144, 14336, 30782, 65534, 0, 131072, 393216, 917504, 2097150, 4194303, 8388607] (.p 0 (.p 1 (.p 2 (.p 3 (.q 4 (.p 6 (.p 7 (.p 8 (.q 9 (.p 11 (.p 12 (.p 13 (.q 14 (.p 17 (.p 18 (.p 19 (.q 20 (.x 5 (.p 10 (.x 15 (.p 16 (.p 21 (.p 22 (.x 23 .nil .none)))) .none)) .none)))))))))))))))))) (by kernel_rfl) ?_ (by kernel_rfl) ?_); (repeat (with_reducible first | exact PanicFree.body | exact PanicFree.np | exact PanicFree.lvS | apply PanicFree.then_ | apply PanicFree.blk)))
    | ((with_reducible apply J.pl2); exact rfl; (first | exact Gd.none | ((with_reducible apply Gd.on); exact rfl; exact rfl)); (repeat (first | (with_reducible exact PendF.nil) | ((with_reducible apply PendF.keep); exact rfl) | ((with_reducible apply PendF.gone); exact rfl))))
    | ((with_reducible apply J.pl2_off); exact rfl; ((with_reducible apply Gd.off); exact rfl; exact rfl; exact rfl); exact rfl; (repeat (first | (with_reducible exact PendF.nil) | ((with_reducible apply PendF.keep); exact rfl) | ((with_reducible apply PendF.gone); exact rfl))))
    | ((with_reducible apply J.pl2_off_none); exact rfl; ((with_reducible apply Gd.off); exact rfl; exact rfl; exact rfl); (repeat (first | (with_reducible exact PendF.nil) | ((with_reducible apply PendF.keep); exact rfl) | ((with_reducible apply PendF.gone); exact rfl))))
    | ((with_reducible first | apply J.psplit0 | apply J.psplit1 | apply J.psplit2); exact rfl; exact rfl; exact rfl)
    | (with_reducible exact J.pl_none)
    | ((with_reducible apply J.gsplit); exact rfl; exact rfl)
    | ((with_reducible first | apply J.cond | apply JC.cond); exact rfl)
    | (intro h; exfalso; (first | (simp at h; done) | (simp at h; omega) | omega))
    | (intro h; (try simp only [decide_eq_true_eq, decide_eq_false_iff_not, beq_iff_eq, beq_eq_false_iff_ne, Bool.not_eq_true', Bool.not_eq_false', bne_iff_ne, bne_eq_false_iff_eq, ne_eq, ge_iff_le, gt_iff_lt] at h))
    | (with_reducible apply J.gave')
    | ((with_reducible apply J.kept'); rotate_left; (repeat (first | (with_reducible exact Outs.nil) | ((with_reducible apply Outs.cons); (repeat (first | with_reducible exact Out.here | with_reducible apply Out.there))))))
  rename_i b2 b3
  apply J.reB (b := b3) (C' := tab (fun j => u32 (wpart l 0 j)) 64)
  · (repeat (first | with_reducible exact Upd.here | with_reducible apply Upd.there))
  · exact zeros64 l
  apply J.loopI (σ := Nat) (I := fun q => (q ≤ 16)) (L := fun q => [(0, .slice ao 64 cap), (2, .pointer (some ⟨b2, 0, none⟩)), (3, .pointer (some ⟨b3, 0, none⟩)), (6, .int .i64 (q : Int))]) (HH := fun q => [blk b3 (tab (fun j => u32 (wpart l q j)) 64) 198, blk b2 (List.replicate 64 (.int .u32 0)) 198]) (m := fun q => 16 - q) (s0 := 0)
  · ((try dsimp only); (exact Nat.zero_le _))
  · ((try dsimp only); repeat (first | exact sub.nil _ | (refine sub.consE rfl ?_ ?_; (first | with_reducible rfl | (fail) | rfl))))
  · ((try dsimp only); (repeat (first | (with_reducible exact Outs.nil) | ((with_reducible apply Outs.cons); (repeat (first | with_reducible exact Out.here | with_reducible apply Out.there))))))
  rintro i hI
  try dsimp only at hI ⊢
  repeat' first
    | (refine J.qv ?_; (with_reducible apply exq); focus (first
      | ((with_reducible apply Qv.indexArr); exact rfl; exact rfl; (constructor <;> omega); exact rfl)
      | ((with_reducible apply Qv.sl (p := 4 * i) (r := 4 * i + 4)); exact rfl; exact Bd.some rfl (by omega); exact Bd.some rfl (by omega); omega; omega)
      | ((with_reducible apply Qv.toB); exact rfl)))
    | ((with_reducible apply J.store1); exact rfl; exact rfl; exact rfl; (repeat (first | with_reducible exact Upd.here | with_reducible apply Upd.there)); exact tab_put (k := i) (by omega) (by omega); (rw [tab_length]; omega))
    | ((with_reducible apply J.givesR (int_ _ _ _ ((l.drop (4 * i * 1)).take 4))); exact rfl; exact rfl; focus ((refine RH.and ?_ (RH.of ?_); exact RH.off (RH.old hr) (by omega); (refine ⟨?_, ?_, ?_⟩ <;> (first | (simp; omega) | omega)))))
    | refine J.one ?_
    | refine J.loudS ?_
    | (refine J.loudQ ?_; intro _ _)
    | (refine J.loudB ?_; intro _)
    | (with_reducible apply J.list)
    | ((with_reducible apply J.draw (id := 10) [0, 0, 2, 6, 14, 30, 0, 64, 192, 448, 1022, 0, 2048, 6144, 14336, 30782, 65534, 0, 131072, 393216, 917504, 2097150, 4194303, 8388607] (.p 0 (.p 1 (.p 2 (.p 3 (.q 4 (.p 6 (.p 7 (.p 8 (.q 9 (.p 11 (.p 12 (.p 13 (.q 14 (.p 17 (.p 18 (.p 19 (.q 20 (.x 5 (.p 10 (.x 15 (.p 16 (.p 21 (.p 22 (.x 23 .nil .none)))) .none)) .none)))))))))))))))))) (by kernel_rfl) ?_ (by kernel_rfl) ?_); (repeat (with_reducible first | exact PanicFree.body | exact PanicFree.np | exact PanicFree.lvS | apply PanicFree.then_ | apply PanicFree.blk)))
    | ((with_reducible apply J.pl2); exact rfl; (first | exact Gd.none | ((with_reducible apply Gd.on); exact rfl; exact rfl)); (repeat (first | (with_reducible exact PendF.nil) | ((with_reducible apply PendF.keep); exact rfl) | ((with_reducible apply PendF.gone); exact rfl))))
    | ((with_reducible apply J.pl2_off); exact rfl; ((with_reducible apply Gd.off); exact rfl; exact rfl; exact rfl); exact rfl; (repeat (first | (with_reducible exact PendF.nil) | ((with_reducible apply PendF.keep); exact rfl) | ((with_reducible apply PendF.gone); exact rfl))))
    | ((with_reducible apply J.pl2_off_none); exact rfl; ((with_reducible apply Gd.off); exact rfl; exact rfl; exact rfl); (repeat (first | (with_reducible exact PendF.nil) | ((with_reducible apply PendF.keep); exact rfl) | ((with_reducible apply PendF.gone); exact rfl))))
    | ((with_reducible first | apply J.psplit0 | apply J.psplit1 | apply J.psplit2); exact rfl; exact rfl; exact rfl)
    | (with_reducible exact J.pl_none)
    | ((with_reducible apply J.gsplit); exact rfl; exact rfl)
    | ((with_reducible first | apply J.cond | apply JC.cond); exact rfl)
    | (intro h; exfalso; (first | (simp at h; done) | (simp at h; omega) | omega))
    | (intro h; (try simp only [decide_eq_true_eq, decide_eq_false_iff_not, beq_iff_eq, beq_eq_false_iff_ne, Bool.not_eq_true', Bool.not_eq_false', bne_iff_ne, bne_eq_false_iff_eq, ne_eq, ge_iff_le, gt_iff_lt] at h))
    | (with_reducible apply J.gave')
    | ((with_reducible apply J.kept'); rotate_left; (repeat (first | (with_reducible exact Outs.nil) | ((with_reducible apply Outs.cons); (repeat (first | with_reducible exact Out.here | with_reducible apply Out.there))))))
  · have hq : i < 16 := by omega
    apply J.reB (b := b3) (C' := tab (fun j => u32 (wpart l (i + 1) j)) 64)
    · (repeat (first | with_reducible exact Upd.here | with_reducible apply Upd.there))
    · exact wpart_put hq word_of
    (apply J.againI (s := i) (s' := (i + 1)); (focus (omega)); (focus ((try dsimp only); omega)); (focus (((try dsimp only); repeat (first | exact sub.nil _ | (refine sub.consE rfl ?_ ?_; (first | with_reducible rfl | ((focus (congr 1; omega))) | rfl)))))); ((try dsimp only); (repeat (first | (with_reducible exact Outs.nil) | ((with_reducible apply Outs.cons); (repeat (first | with_reducible exact Out.here | with_reducible apply Out.there)))))))
  have e0 : i = 16 := by omega
  subst e0
  apply J.reB (b := b3) (C' := tab (fun j => u32 (sch l 0 j)) 64)
  · (repeat (first | with_reducible exact Upd.here | with_reducible apply Upd.there))
  · exact wpart_all l
  apply J.loopI (σ := Nat) (I := fun q => (q ≤ 48)) (L := fun q => [(2, .pointer (some ⟨b2, 0, none⟩)), (3, .pointer (some ⟨b3, 0, none⟩)), (5, .int .i64 ((q : Int) + 16))]) (HH := fun q => [blk b3 (tab (fun j => u32 (sch l q j)) 64) 198, blk b2 (List.replicate 64 (.int .u32 0)) 198]) (m := fun q => 48 - q) (s0 := 0)
  · ((try dsimp only); (exact Nat.zero_le _))
  · ((try dsimp only); repeat (first | exact sub.nil _ | (refine sub.consE rfl ?_ ?_; (first | with_reducible rfl | (fail) | rfl))))
  · ((try dsimp only); (repeat (first | (with_reducible exact Outs.nil) | ((with_reducible apply Outs.cons); (repeat (first | with_reducible exact Out.here | with_reducible apply Out.there))))))
  rintro n hJ
  try dsimp only at hJ ⊢
  repeat' first
    | (refine J.qv ?_; (with_reducible apply exq); focus (first
      | ((with_reducible apply Qv.indexArr); exact rfl; exact rfl; (constructor <;> omega); exact rfl)
      | ((with_reducible apply Qv.toB); exact rfl)))
    | (refine J.qr ?_; (with_reducible apply exq); focus (first
      | ((with_reducible apply Qr.load1); exact rfl; (repeat (first | with_reducible exact In.here | with_reducible apply In.there)); exact tab_at rfl (by omega))))
    | (refine J.qo ?_; refine ⟨?_, ?_⟩; focus (first
      | ((with_reducible apply Qr.load1); exact rfl; (repeat (first | with_reducible exact In.here | with_reducible apply In.there)); exact tab_at rfl (by omega))))
    | ((with_reducible apply J.store1); exact rfl; exact rfl; exact rfl; (repeat (first | with_reducible exact Upd.here | with_reducible apply Upd.there)); exact tab_put (k := (n + 16)) (by omega) (by omega); (rw [tab_length]; omega))
    | ((with_reducible apply J.givesP (threeS _ _ _ _)); exact rfl; exact rfl; decide)
    | ((with_reducible apply J.givesP (threeT _ _ _ _)); exact rfl; exact rfl; decide)
    | refine J.one ?_
    | refine J.loudS ?_
    | (refine J.loudQ ?_; intro _ _)
    | (refine J.loudB ?_; intro _)
    | (with_reducible apply J.list)
    | ((with_reducible apply J.draw (id := 10) [0, 0, 2, 6, 14, 30, 0, 64, 192, 448, 1022, 0, 2048, 6144, 14336, 30782, 65534, 0, 131072, 393216, 917504, 2097150, 4194303, 8388607] (.p 0 (.p 1 (.p 2 (.p 3 (.q 4 (.p 6 (.p 7 (.p 8 (.q 9 (.p 11 (.p 12 (.p 13 (.q 14 (.p 17 (.p 18 (.p 19 (.q 20 (.x 5 (.p 10 (.x 15 (.p 16 (.p 21 (.p 22 (.x 23 .nil .none)))) .none)) .none)))))))))))))))))) (by kernel_rfl) ?_ (by kernel_rfl) ?_); (repeat (with_reducible first | exact PanicFree.body | exact PanicFree.np | exact PanicFree.lvS | apply PanicFree.then_ | apply PanicFree.blk)))
    | ((with_reducible apply J.pl2); exact rfl; (first | exact Gd.none | ((with_reducible apply Gd.on); exact rfl; exact rfl)); (repeat (first | (with_reducible exact PendF.nil) | ((with_reducible apply PendF.keep); exact rfl) | ((with_reducible apply PendF.gone); exact rfl))))
    | ((with_reducible apply J.pl2_off); exact rfl; ((with_reducible apply Gd.off); exact rfl; exact rfl; exact rfl); exact rfl; (repeat (first | (with_reducible exact PendF.nil) | ((with_reducible apply PendF.keep); exact rfl) | ((with_reducible apply PendF.gone); exact rfl))))
    | ((with_reducible apply J.pl2_off_none); exact rfl; ((with_reducible apply Gd.off); exact rfl; exact rfl; exact rfl); (repeat (first | (with_reducible exact PendF.nil) | ((with_reducible apply PendF.keep); exact rfl) | ((with_reducible apply PendF.gone); exact rfl))))
    | ((with_reducible first | apply J.psplit0 | apply J.psplit1 | apply J.psplit2); exact rfl; exact rfl; exact rfl)
    | (with_reducible exact J.pl_none)
    | ((with_reducible apply J.gsplit); exact rfl; exact rfl)
    | ((with_reducible first | apply J.cond | apply JC.cond); exact rfl)
    | (intro h; exfalso; (first | (simp at h; done) | (simp at h; omega) | omega))
    | (intro h; (try simp only [decide_eq_true_eq, decide_eq_false_iff_not, beq_iff_eq, beq_eq_false_iff_ne, Bool.not_eq_true', Bool.not_eq_false', bne_iff_ne, bne_eq_false_iff_eq, ne_eq, ge_iff_le, gt_iff_lt] at h))
    | (with_reducible apply J.gave')
    | ((with_reducible apply J.kept'); rotate_left; (repeat (first | (with_reducible exact Outs.nil) | ((with_reducible apply Outs.cons); (repeat (first | with_reducible exact Out.here | with_reducible apply Out.there))))))
  · have hq : n < 48 := by omega
    apply J.reB (b := b3) (C' := tab (fun j => u32 (sch l (n + 1) j)) 64)
    · (repeat (first | with_reducible exact Upd.here | with_reducible apply Upd.there))
    · refine sch_put ?_
      have a1 : 0 + ((n : Int) + 16 - 2).toNat * 1 = n + 14 := by omega
      have a2 : 0 + ((n : Int) + 16 - 7).toNat * 1 = n + 9 := by omega
      have a3 : 0 + ((n : Int) + 16 - 15).toNat * 1 = n + 1 := by omega
      have a4 : 0 + ((n : Int) + 16 - 16).toNat * 1 = n := by omega
      rw [a1, a2, a3, a4]
      rfl
    (apply J.againI (s := n) (s' := (n + 1)); (focus (omega)); (focus ((try dsimp only); omega)); (focus (((try dsimp only); repeat (first | exact sub.nil _ | (refine sub.consE rfl ?_ ?_; (first | with_reducible rfl | ((focus (congr 1; omega))) | rfl)))))); ((try dsimp only); (repeat (first | (with_reducible exact Outs.nil) | ((with_reducible apply Outs.cons); (repeat (first | with_reducible exact Out.here | with_reducible apply Out.there)))))))
  · have e0 : n = 48 := by omega
    subst e0
    simp only [retv]
end Go.Proofs.Ytfcaeifpclpnoaa.Hash
namespace Go.Proofs.Ytfcaeifpclpnoaa.Bytes
open Go Go.RowKit Eng
set_option linter.unusedVariables false
set_option maxRecDepth 100000
set_option linter.unusedSimpArgs false
open Sha Iter Hash
set_option maxHeartbeats 1000000
theorem clone_bytes (ao : Option Addr) (n cap : Nat) (C : List Value) (w : World) (hw : Rd w ao C ∧ C.length = n * 1 ∧ C.all (·.oneCell') = true ∧ n * 1 ≤ 140737488355328 ∧ n ≤ maxLen) : CSpec Try.prog 144 [.slice ao n cap] [] w (Fresh 5 1 n C []) := by
  obtain ⟨hr, hl, ho, hb, hm⟩ := hw
  refine spec_own0 Try.func144 rfl Try.ntmps144 rfl (l0 := [(0, .slice ao n cap)]) rfl ?_
  repeat' first
    | (refine J.qv ?_; (with_reducible apply exq); focus (first
      | ((with_reducible apply Qv.nilS); exact rfl)))
    | ((with_reducible apply J.buildRow0); exact rfl; intro _)
    | ((with_reducible apply J.appendR); exact rfl; exact rfl; (repeat (first | with_reducible exact Out.here | with_reducible apply Out.there)); exact rfl; exact RH.old hr; exact hl; exact ho; exact rfl; exact rfl; (first | decide | (simp only [maxLen]; omega) | omega); (first | decide | (simp only [maxLen]; omega) | omega); intro _ _)
    | refine J.one ?_
    | refine J.loudS ?_
    | (refine J.loudQ ?_; intro _ _)
    | (refine J.loudB ?_; intro _)
    | (with_reducible apply J.list)
    | ((with_reducible apply J.gsplit); exact rfl; exact rfl)
    | ((with_reducible first | apply J.cond | apply JC.cond); exact rfl)
    | (intro h; exfalso; fail)
    | (intro h; (try simp only [decide_eq_true_eq, decide_eq_false_iff_not, beq_iff_eq, beq_eq_false_iff_ne, Bool.not_eq_true', Bool.not_eq_false', bne_iff_ne, bne_eq_false_iff_eq, ne_eq, ge_iff_le, gt_iff_lt] at h))
    | (with_reducible apply J.gave')
    | ((with_reducible apply J.kept'); rotate_left; (repeat (first | (with_reducible exact Outs.nil) | ((with_reducible apply Outs.cons); (repeat (first | with_reducible exact Out.here | with_reducible apply Out.there))))))
  all_goals
    first
    | (rw [Option.isNone_iff_eq_none] at h
       have e1 : C = [] := hr.1 h
       subst e1
       have e2 : n = 0 := by simp at hl; omega
       subst e2
       refine J.nilRow 5 1 ?_
       (with_reducible apply J.freshRow)
       (repeat (first | with_reducible exact Out.here | with_reducible apply Out.there))
       exact rfl
       exact rfl
       exact rfl)
    | ((with_reducible apply J.freshRow)
       (repeat (first | with_reducible exact Out.here | with_reducible apply Out.there))
       exact rfl
       omega
       exact List.nil_append _)
    | (trace_state; fail)
theorem pad_ (ao : Option Addr) (n cap : Nat) (l : List UInt8) (w : World) (hw : Rd w ao (bcs l) ∧ n = l.length ∧ l.length ≤ 1099511627776) : CSpec Try.prog 136 [.slice ao n cap] [] w (Fresh 5 1 (pad l).length (bcs (pad l)) []) := by
  obtain ⟨hr, rfl, hl⟩ := hw
  have hz : padz l.length ≤ 63 := by unfold padz; omega
  refine spec_own0 Try.func136 rfl Try.ntmps136 rfl (l0 := [(0, .slice ao l.length cap)]) rfl ?_
  repeat' first
    | (refine J.qv ?_; (with_reducible apply exq); focus (first
      | ((with_reducible apply Qv.mul); exact rfl; exact rfl; exact wr64 (z := ((8 * l.length : Nat) : Int)) (by omega) (by omega) (by omega))))
    | ((with_reducible apply J.freshR (clone_bytes _ _ _ (bcs l))); exact rfl; exact rfl; (focus ((refine RH.and ?_ (RH.of ?_); exact RH.old hr; (refine ⟨by rw [bcs_length]; omega, bcs_ones _, ?_, ?_⟩ <;> (first | omega | (simp only [maxLen]; omega)))))); intro _ _)
    | ((with_reducible apply J.freshR (num_ (8 * l.length) 8)); exact rfl; exact rfl; (focus ((refine RH.of ?_; omega))); intro _ _)
    | refine J.one ?_
    | refine J.loudS ?_
    | (refine J.loudQ ?_; intro _ _)
    | (refine J.loudB ?_; intro _)
    | (with_reducible apply J.list)
    | ((with_reducible apply J.gsplit); exact rfl; exact rfl)
    | ((with_reducible first | apply J.cond | apply JC.cond); exact rfl)
    | (intro h; exfalso; (first | (simp at h; done) | (unfold padz at *; omega)))
    | (intro h; (try simp only [decide_eq_true_eq, decide_eq_false_iff_not, beq_iff_eq, beq_eq_false_iff_ne, Bool.not_eq_true', Bool.not_eq_false', bne_iff_ne, bne_eq_false_iff_eq, ne_eq, ge_iff_le, gt_iff_lt] at h))
    | (with_reducible apply J.gave')
    | ((with_reducible apply J.kept'); rotate_left; (repeat (first | (with_reducible exact Outs.nil) | ((with_reducible apply Outs.cons); (repeat (first | with_reducible exact Out.here | with_reducible apply Out.there))))))
  rename_i q1 _ b q _
  apply J.reC (n' := l.length + 1 + 0) (C' := bcs (l ++ [128] ++ List.replicate 0 0))
  · (repeat (first | with_reducible exact Upd.here | with_reducible apply Upd.there))
  · rfl
  · simp [bcs]
  apply J.loopI (σ := (Nat × (Option Addr × Nat))) (I := fun s => (s.1 ≤ padz l.length)) (L := fun s => [(3, .slice s.2.1 (l.length + 1 + s.1) s.2.2), (0, .slice ao l.length cap)]) (HH := fun s => [row (.slice s.2.1 (l.length + 1 + s.1) s.2.2) 5 1 (l.length + 1 + s.1) (bcs (l ++ [128] ++ List.replicate s.1 0))]) (m := fun s => padz l.length - s.1) (s0 := (0, q))
  · ((try dsimp only); (exact Nat.zero_le _))
  · ((try dsimp only); repeat (first | exact sub.nil _ | (refine sub.consE rfl ?_ ?_; (first | with_reducible rfl | (fail) | rfl))))
  · ((try dsimp only); (repeat (first | (with_reducible exact Outs.nil) | ((with_reducible apply Outs.cons); (repeat (first | with_reducible exact Out.here | with_reducible apply Out.there))))))
  rintro ⟨k, q⟩ hI
  try dsimp only at hI ⊢
  repeat' first
    | (refine J.qv ?_; (with_reducible apply exq); focus (first
      | ((with_reducible apply Qv.mul); exact rfl; exact rfl; exact wr64 (z := ((8 * l.length : Nat) : Int)) (by omega) (by omega) (by omega))))
    | ((with_reducible apply J.freshR (clone_bytes _ _ _ (bcs l))); exact rfl; exact rfl; (focus ((refine RH.and ?_ (RH.of ?_); exact RH.old hr; (refine ⟨by rw [bcs_length]; omega, bcs_ones _, ?_, ?_⟩ <;> (first | omega | (simp only [maxLen]; omega)))))); intro _ _)
    | ((with_reducible apply J.freshR (num_ (8 * l.length) 8)); exact rfl; exact rfl; (focus ((refine RH.of ?_; omega))); intro _ _)
    | refine J.one ?_
    | refine J.loudS ?_
    | (refine J.loudQ ?_; intro _ _)
    | (refine J.loudB ?_; intro _)
    | (with_reducible apply J.list)
    | ((with_reducible apply J.gsplit); exact rfl; exact rfl)
    | ((with_reducible first | apply J.cond | apply JC.cond); exact rfl)
    | (intro h; exfalso; (first | (simp at h; done) | (unfold padz at *; omega)))
    | (intro h; (try simp only [decide_eq_true_eq, decide_eq_false_iff_not, beq_iff_eq, beq_eq_false_iff_ne, Bool.not_eq_true', Bool.not_eq_false', bne_iff_ne, bne_eq_false_iff_eq, ne_eq, ge_iff_le, gt_iff_lt] at h))
    | (with_reducible apply J.gave')
    | ((with_reducible apply J.kept'); rotate_left; (repeat (first | (with_reducible exact Outs.nil) | ((with_reducible apply Outs.cons); (repeat (first | with_reducible exact Out.here | with_reducible apply Out.there))))))
  all_goals
    first
    | (have hq : k < padz l.length := by unfold padz at *; omega
       rename_i b2 q2 _
       apply J.reR (v' := .slice q2.1 (l.length + 1 + (k + 1)) q2.2) (n' := l.length + 1 + (k + 1)) (C' := bcs (l ++ [128] ++ List.replicate (k + 1) 0))
       · (repeat (first | with_reducible exact Upd.here | with_reducible apply Upd.there))
       · rfl
       · rfl
       · simp [bcs, List.replicate_succ']
       (apply J.againI (s := (k, q)) (s' := (k + 1, q2)); (focus (omega)); (focus ((try dsimp only); (show k + 1 ≤ padz l.length; omega))); (focus (((try dsimp only); repeat (first | exact sub.nil _ | (refine sub.consE rfl ?_ ?_; (first | with_reducible rfl | (fail) | rfl)))))); ((try dsimp only); (repeat (first | (with_reducible exact Outs.nil) | ((with_reducible apply Outs.cons); (repeat (first | with_reducible exact Out.here | with_reducible apply Out.there))))))))
    | (have hq : k = padz l.length := by unfold padz at *; omega
       subst hq
       ((with_reducible apply J.freshRow); (repeat (first | with_reducible exact Out.here | with_reducible apply Out.there)); exact rfl; (simp [pad, num_length]; omega); exact (bcs_append _ _).symm))
    | (trace_state; fail)
theorem grow_ (n : Nat) (w : World) (hw : n ≤ 140737488355328) : CSpec Try.prog 128 [.slice none 0 0, .int .i64 (n : Int)] [] w (Fresh 5 1 0 [] []) := by
  refine spec_own0 Try.func128 rfl Try.ntmps128 rfl (l0 := [(0, .slice none 0 0), (1, .int .i64 (n : Int))]) rfl ?_
  repeat' first
    | (refine J.qv ?_; (with_reducible apply exq); focus (first
      | ((with_reducible apply Qv.sub); exact rfl; exact rfl; exact wr64 (z := (n : Int)) (by omega) (by omega) (by omega))
      | ((with_reducible apply Qv.sliceTo (k := 0)); exact rfl; exact rfl; exact rfl; omega)))
    | ((with_reducible apply J.appendMake (n := n)); exact rfl; exact rfl; exact rfl; exact rfl; exact rfl; exact rfl; omega; (simp only [maxLen]; omega); omega; intro _ _)
    | refine J.one ?_
    | refine J.loudS ?_
    | (refine J.loudQ ?_; intro _ _)
    | (refine J.loudB ?_; intro _)
    | (with_reducible apply J.list)
    | ((with_reducible apply J.gsplit); exact rfl; exact rfl)
    | ((with_reducible first | apply J.cond | apply JC.cond); exact rfl)
    | (intro h; exfalso; (first | (simp at h; done) | (simp at h; omega) | omega))
    | (intro h; (try simp only [decide_eq_true_eq, decide_eq_false_iff_not, beq_iff_eq, beq_eq_false_iff_ne, Bool.not_eq_true', Bool.not_eq_false', bne_iff_ne, bne_eq_false_iff_eq, ne_eq, ge_iff_le, gt_iff_lt] at h))
    | (with_reducible apply J.gave')
    | ((with_reducible apply J.kept'); rotate_left; (repeat (first | (with_reducible exact Outs.nil) | ((with_reducible apply Outs.cons); (repeat (first | with_reducible exact Out.here | with_reducible apply Out.there))))))
  all_goals
    first
    | (refine J.nilRow 5 1 ?_
       ((with_reducible apply J.freshRow); (repeat (first | with_reducible exact Out.here | with_reducible apply Out.there)); exact rfl; exact rfl; exact rfl))
    | ((with_reducible apply J.freshRow); (repeat (first | with_reducible exact Out.here | with_reducible apply Out.there)); exact rfl; exact rfl; exact rfl)
    | (trace_state; fail)
theorem flat_take {L : List (List UInt8)} {i : Nat} {l : List UInt8} (h : L[i]? = some l) : (L.take (i + 1)).flatten = (L.take i).flatten ++ l := by
  rw [List.take_add_one, h]
  simp
theorem flat_le (L : List (List UInt8)) (i : Nat) : (L.take i).flatten.length ≤ L.flatten.length := by
  have h : L.flatten = (L.take i).flatten ++ (L.drop i).flatten := by rw [← List.flatten_append, List.take_append_drop]
  rw [h, List.length_append]
  omega
theorem flat_len {L : List (List UInt8)} {i : Nat} {l : List UInt8} (h : L[i]? = some l) : (L.take (i + 1)).flatten.length = (L.take i).flatten.length + l.length := by rw [flat_take h, List.length_append]
theorem concat_ (ao : Option Addr) (n cap : Nat) (L : List (List UInt8)) (w : World) (hw : RdS w ao L ∧ n = L.length ∧ L.flatten.length ≤ 1099511627776 ∧ L.length ≤ 1099511627776) : CSpec Try.prog 109 [.slice ao n cap] [] w (Fresh 5 1 L.flatten.length (bcs L.flatten) []) := by
  obtain ⟨⟨V, hV, hL⟩, rfl, hf, hn⟩ := hw
  have hVl := hL.length
  refine spec_own0 Try.func109 rfl Try.ntmps109 rfl (l0 := [(0, .slice ao L.length cap)]) rfl ?_
  repeat' first
    | refine J.one ?_
    | refine J.loudS ?_
    | (refine J.loudQ ?_; intro _ _)
    | (refine J.loudB ?_; intro _)
    | (with_reducible apply J.list)
    | ((with_reducible apply J.gsplit); exact rfl; exact rfl)
    | ((with_reducible first | apply J.cond | apply JC.cond); exact rfl)
    | (intro h; exfalso; fail)
    | (intro h; (try simp only [decide_eq_true_eq, decide_eq_false_iff_not, beq_iff_eq, beq_eq_false_iff_ne, Bool.not_eq_true', Bool.not_eq_false', bne_iff_ne, bne_eq_false_iff_eq, ne_eq, ge_iff_le, gt_iff_lt] at h))
    | (with_reducible apply J.gave')
    | ((with_reducible apply J.kept'); rotate_left; (repeat (first | (with_reducible exact Outs.nil) | ((with_reducible apply Outs.cons); (repeat (first | with_reducible exact Out.here | with_reducible apply Out.there))))))
  apply J.loopI (σ := Nat) (I := fun q => (q ≤ L.length)) (L := fun q => [(0, .slice ao L.length cap), (9, .slice ao L.length cap), (10, .int .i64 (L.length : Int)), (11, .int .i64 (q : Int)), (3, .int .i64 (((L.take q).flatten.length : Nat) : Int))]) (HH := fun q => []) (m := fun q => L.length - q) (s0 := 0)
  · ((try dsimp only); (exact Nat.zero_le _))
  · ((try dsimp only); repeat (first | exact sub.nil _ | (refine sub.consE rfl ?_ ?_; (first | with_reducible rfl | (fail) | rfl))))
  · ((try dsimp only); (repeat (first | (with_reducible exact Outs.nil) | ((with_reducible apply Outs.cons); (repeat (first | with_reducible exact Out.here | with_reducible apply Out.there))))))
  rintro i hI
  try dsimp only at hI ⊢
  have hfl := flat_le L (i + 1)
  have hfi := flat_le L i
  rcases Nat.lt_or_ge i L.length with hlt | hge
  · obtain ⟨bs, hl⟩ : ∃ bs, L[i]? = some bs := ⟨_, List.getElem?_eq_getElem hlt⟩
    obtain ⟨v, hv, ai, ci, rfl, hc, hb⟩ := RdL.get hL hl
    have hfe := flat_len hl
    repeat' first
      | (refine J.qv ?_; (with_reducible apply exq); focus (first
        | ((with_reducible apply Qv.add); exact rfl; exact rfl; exact wr64 (z := (((L.take (i + 1)).flatten.length : Nat) : Int)) (by omega) (by omega) (by rw [flat_len hl]; omega))))
      | (refine J.qr ?_; (with_reducible apply exq); focus (first
        | ((with_reducible apply Qr.indexRd (k := i) (C := V)); exact rfl; exact rfl; exact rfl; omega; exact RH.old hV; omega)
        | ((with_reducible apply Qr.rd1 (C := V)); exact rfl; exact RH.old hV; (rw [Nat.mul_one]; exact hv))))
      | refine J.one ?_
      | refine J.loudS ?_
      | (refine J.loudQ ?_; intro _ _)
      | (refine J.loudB ?_; intro _)
      | (with_reducible apply J.list)
      | ((with_reducible apply J.gsplit); exact rfl; exact rfl)
      | ((with_reducible first | apply J.cond | apply JC.cond); exact rfl)
      | (intro h; exfalso; (first | (simp at h; done) | (simp at h; omega) | omega))
      | (intro h; (try simp only [decide_eq_true_eq, decide_eq_false_iff_not, beq_iff_eq, beq_eq_false_iff_ne, Bool.not_eq_true', Bool.not_eq_false', bne_iff_ne, bne_eq_false_iff_eq, ne_eq, ge_iff_le, gt_iff_lt] at h))
      | (with_reducible apply J.gave')
      | ((with_reducible apply J.kept'); rotate_left; (repeat (first | (with_reducible exact Outs.nil) | ((with_reducible apply Outs.cons); (repeat (first | with_reducible exact Out.here | with_reducible apply Out.there))))))
    all_goals
      first
      | ((apply J.againI (s := i) (s' := (i + 1)); (focus (omega)); (focus ((try dsimp only); omega)); (focus (((try dsimp only); repeat (first | exact sub.nil _ | (refine sub.consE rfl ?_ ?_; (first | with_reducible rfl | ((focus (congr 1; omega))) | rfl)))))); ((try dsimp only); (repeat (first | (with_reducible exact Outs.nil) | ((with_reducible apply Outs.cons); (repeat (first | with_reducible exact Out.here | with_reducible apply Out.there))))))))
      | (trace_state; fail)
  have e0 : i = L.length := by omega
  subst e0
  have e1 : (L.take L.length).flatten.length = L.flatten.length := by rw [List.take_length]
  repeat' first
    | ((with_reducible apply J.freshR (grow_ _)); exact rfl; exact rfl; (focus ((refine RH.of ?_; omega))); intro _ _)
    | refine J.one ?_
    | refine J.loudS ?_
    | (refine J.loudQ ?_; intro _ _)
    | (refine J.loudB ?_; intro _)
    | (with_reducible apply J.list)
    | ((with_reducible apply J.gsplit); exact rfl; exact rfl)
    | ((with_reducible first | apply J.cond | apply JC.cond); exact rfl)
    | (intro h; exfalso; (first | (simp at h; done) | (simp at h; omega) | omega))
    | (intro h; (try simp only [decide_eq_true_eq, decide_eq_false_iff_not, beq_iff_eq, beq_eq_false_iff_ne, Bool.not_eq_true', Bool.not_eq_false', bne_iff_ne, bne_eq_false_iff_eq, ne_eq, ge_iff_le, gt_iff_lt] at h))
    | (with_reducible apply J.gave')
    | ((with_reducible apply J.kept'); rotate_left; (repeat (first | (with_reducible exact Outs.nil) | ((with_reducible apply Outs.cons); (repeat (first | with_reducible exact Out.here | with_reducible apply Out.there))))))
  rename_i q0 _
  apply J.reR (v' := .slice q0.1 ((L.take 0).flatten.length) q0.2) (n' := (L.take 0).flatten.length) (C' := bcs (L.take 0).flatten)
  · (repeat (first | with_reducible exact Upd.here | with_reducible apply Upd.there))
  · rfl
  · rfl
  · rfl
  apply J.loopI (σ := (Nat × (Option Addr × Nat))) (I := fun s => (s.1 ≤ L.length)) (L := fun s => [(6, .slice s.2.1 ((L.take s.1).flatten.length) s.2.2), (25, .slice ao L.length cap), (26, .int .i64 (L.length : Int)), (27, .int .i64 (s.1 : Int))]) (HH := fun s => [row (.slice s.2.1 ((L.take s.1).flatten.length) s.2.2) 5 1 ((L.take s.1).flatten.length) (bcs (L.take s.1).flatten)]) (m := fun s => L.length - s.1) (s0 := (0, q0))
  · ((try dsimp only); (exact Nat.zero_le _))
  · ((try dsimp only); repeat (first | exact sub.nil _ | (refine sub.consE rfl ?_ ?_; (first | with_reducible rfl | (fail) | rfl))))
  · ((try dsimp only); (repeat (first | (with_reducible exact Outs.nil) | ((with_reducible apply Outs.cons); (repeat (first | with_reducible exact Out.here | with_reducible apply Out.there))))))
  rintro ⟨i, q⟩ hI
  try dsimp only at hI ⊢
  have hfl := flat_le L (i + 1)
  have hfi := flat_le L i
  rcases Nat.lt_or_ge i L.length with hlt | hge
  · obtain ⟨bs, hl⟩ : ∃ bs, L[i]? = some bs := ⟨_, List.getElem?_eq_getElem hlt⟩
    obtain ⟨v, hv, ai, ci, rfl, hc, hb⟩ := RdL.get hL hl
    have hfe := flat_len hl
    repeat' first
      | (refine J.qr ?_; (with_reducible apply exq); focus (first
        | ((with_reducible apply Qr.indexRd (k := i) (C := V)); exact rfl; exact rfl; exact rfl; omega; exact RH.old hV; omega)
        | ((with_reducible apply Qr.rd1 (C := V)); exact rfl; exact RH.old hV; (rw [Nat.mul_one]; exact hv))))
      | ((with_reducible apply J.appendR (news := bcs bs)); exact rfl; exact rfl; (repeat (first | with_reducible exact Out.here | with_reducible apply Out.there)); exact rfl; exact RH.old hb; (rw [bcs_length]; omega); exact bcs_ones _; exact rfl; exact rfl; (simp only [maxLen]; omega); omega; intro _ _)
      | refine J.one ?_
      | refine J.loudS ?_
      | (refine J.loudQ ?_; intro _ _)
      | (refine J.loudB ?_; intro _)
      | (with_reducible apply J.list)
      | ((with_reducible apply J.gsplit); exact rfl; exact rfl)
      | ((with_reducible first | apply J.cond | apply JC.cond); exact rfl)
      | (intro h; exfalso; (first | (simp at h; done) | (simp at h; omega) | omega))
      | (intro h; (try simp only [decide_eq_true_eq, decide_eq_false_iff_not, beq_iff_eq, beq_eq_false_iff_ne, Bool.not_eq_true', Bool.not_eq_false', bne_iff_ne, bne_eq_false_iff_eq, ne_eq, ge_iff_le, gt_iff_lt] at h))
      | (with_reducible apply J.gave')
      | ((with_reducible apply J.kept'); rotate_left; (repeat (first | (with_reducible exact Outs.nil) | ((with_reducible apply Outs.cons); (repeat (first | with_reducible exact Out.here | with_reducible apply Out.there))))))
    all_goals
      first
      | (rename_i q2 _
         apply J.reR (v' := .slice q2.1 ((L.take (i + 1)).flatten.length) q2.2) (n' := (L.take (i + 1)).flatten.length) (C' := bcs (L.take (i + 1)).flatten)
         · (repeat (first | with_reducible exact Upd.here | with_reducible apply Upd.there))
         · rw [hfe]
         · rw [hfe]
         · rw [flat_take hl, bcs_append]
         (apply J.againI (s := (i, q)) (s' := (i + 1, q2)); (focus (omega)); (focus ((try dsimp only); (show i + 1 ≤ L.length; omega))); (focus (((try dsimp only); repeat (first | exact sub.nil _ | (refine sub.consE rfl ?_ ?_; (first | with_reducible rfl | ((focus (first | (congr 1; done) | (rw [hfe]; done)))) | rfl)))))); ((try dsimp only); (repeat (first | (with_reducible exact Outs.nil) | ((with_reducible apply Outs.cons); (repeat (first | with_reducible exact Out.here | with_reducible apply Out.there))))))))
      | (trace_state; fail)
  have e0 : i = L.length := by omega
  subst e0
  repeat' first
    | refine J.one ?_
    | refine J.loudS ?_
    | (refine J.loudQ ?_; intro _ _)
    | (refine J.loudB ?_; intro _)
    | (with_reducible apply J.list)
    | ((with_reducible apply J.gsplit); exact rfl; exact rfl)
    | ((with_reducible first | apply J.cond | apply JC.cond); exact rfl)
    | (intro h; exfalso; (first | (simp at h; done) | (simp at h; omega) | omega))
    | (intro h; (try simp only [decide_eq_true_eq, decide_eq_false_iff_not, beq_iff_eq, beq_eq_false_iff_ne, Bool.not_eq_true', Bool.not_eq_false', bne_iff_ne, bne_eq_false_iff_eq, ne_eq, ge_iff_le, gt_iff_lt] at h))
    | (with_reducible apply J.gave')
    | ((with_reducible apply J.kept'); rotate_left; (repeat (first | (with_reducible exact Outs.nil) | ((with_reducible apply Outs.cons); (repeat (first | with_reducible exact Out.here | with_reducible apply Out.there))))))
  all_goals
    first
    | (rw [List.take_length] at *
       ((with_reducible apply J.freshRow); (repeat (first | with_reducible exact Out.here | with_reducible apply Out.there)); exact rfl; exact rfl; exact rfl))
    | (trace_state; fail)
end Go.Proofs.Ytfcaeifpclpnoaa.Bytes
namespace Go.Proofs.Ytfcaeifpclpnoaa.Hsum
open Go Go.RowKit Eng
set_option linter.unusedVariables false
set_option maxRecDepth 100000
set_option linter.unusedSimpArgs false
open Sha Iter Hash Bytes
set_option maxHeartbeats 1000000
theorem cat_ (ao : Option Addr) (n cap : Nat) (L : List (List UInt8)) (w : World) (hw : RdS w ao L ∧ n = L.length ∧ L.flatten.length ≤ 1099511627776 ∧ L.length ≤ 1099511627776) : CSpec Try.prog 80 [.slice ao n cap] [] w (Fresh 5 1 L.flatten.length (bcs L.flatten) []) := by
  obtain ⟨hr, hn, hf, hm⟩ := hw
  refine spec_own0 Try.func80 rfl Try.ntmps80 rfl (l0 := [(0, .slice ao n cap)]) rfl ?_
  repeat' first
    | ((with_reducible apply J.freshR (concat_ _ _ _ L)); exact rfl; exact rfl; (focus (exact RH.and (RH.sold hr) (RH.of ⟨hn, hf, hm⟩))); intro _ _)
    | refine J.one ?_
    | refine J.loudS ?_
    | (refine J.loudQ ?_; intro _ _)
    | (refine J.loudB ?_; intro _)
    | (with_reducible apply J.list)
    | ((with_reducible apply J.gsplit); exact rfl; exact rfl)
    | ((with_reducible first | apply J.cond | apply JC.cond); exact rfl)
    | (intro h; exfalso; (first | (simp at h; done) | (simp at h; omega)))
    | (intro h; (try simp only [decide_eq_true_eq, decide_eq_false_iff_not, beq_iff_eq, beq_eq_false_iff_ne, Bool.not_eq_true', Bool.not_eq_false', bne_iff_ne, bne_eq_false_iff_eq, ne_eq, ge_iff_le, gt_iff_lt] at h))
    | (with_reducible apply J.gave')
    | ((with_reducible apply J.kept'); rotate_left; (repeat (first | (with_reducible exact Outs.nil) | ((with_reducible apply Outs.cons); (repeat (first | with_reducible exact Out.here | with_reducible apply Out.there))))))
  all_goals (((with_reducible apply J.freshRow); (repeat (first | with_reducible exact Out.here | with_reducible apply Out.there)); exact rfl; exact rfl; exact rfl))
def IterC (v : Value) (k : Int) : Ending → List Asrt → Prop := fun e H => ∃ Bs Bn, e = .returned (.func (.func 143) #[] [.pointer (some ⟨Bs, 0, none⟩), .pointer (some ⟨Bn, 0, none⟩)].toArray) ∧ H = [blk Bs [v] 54, blk Bn [.int .i64 k] 3]
section
variable {c : Cx} {l : TL} {H : List Asrt} {Q : Exit → Act → World → Prop} {X : Act → World → Prop} {ty : TypeId} {pos : String} {af : Array Edge} {d : Nat}
theorem J.iterC {P : Program} {f : Nat} {v : Value} {k : Int} [i : Eng.Enters P f] {xs : List Operand} {ts : Array TypeId} {vs : List Value} {p : Prop} (hS : ∀ w, p → CSpec P f vs [] w (IterC v k)) (hd : Nat.blt d c.n = true) (hx : evs l xs = some vs) (hp : p)
    (K : ∀ Bs Bn, J c ((d, .func (.func 143) #[] [.pointer (some ⟨Bs, 0, none⟩), .pointer (some ⟨Bn, 0, none⟩)].toArray) :: l) (blk Bs [v] 54 :: blk Bn [.int .i64 k] 3 :: H) X) : J c l H (OW P Q ⟨some d, .call ⟨.value (.func f), xs.toArray, ts⟩, ty, pos, af, none⟩ X) :=
  J.call hd hx .nil (fun w _ => hS w hp) (fun v H3 ⟨Bs, Bn, h1, h2⟩ => by cases h1; subst h2; exact K Bs Bn) (fun ch H3 ⟨Bs, Bn, h1, _⟩ => by cases h1) (fun H3 ⟨Bs, Bn, h1, _⟩ => by cases h1)
end
theorem chunkf (ao : Option Addr) (n cap : Nat) (k : Int) (w : World) (hw : 1 ≤ k) : CSpec Try.prog 135 [.slice ao n cap, .int .i64 k] [] w (IterC (.slice ao n cap) k) := by
  refine spec_own0 Try.func135 rfl Try.ntmps135 rfl (l0 := [(0, .slice ao n cap), (1, .int .i64 k)]) rfl ?_
  repeat' first
    | refine J.one ?_
    | refine J.loudS ?_
    | (refine J.loudQ ?_; intro _ _)
    | (refine J.loudB ?_; intro _)
    | (with_reducible apply J.list)
    | ((with_reducible apply J.gsplit); exact rfl; exact rfl)
    | ((with_reducible first | apply J.cond | apply JC.cond); exact rfl)
    | (intro h; exfalso; (first | (simp at h; done) | (simp at h; omega) | omega))
    | (intro h; (try simp only [decide_eq_true_eq, decide_eq_false_iff_not, beq_iff_eq, beq_eq_false_iff_ne, Bool.not_eq_true', Bool.not_eq_false', bne_iff_ne, bne_eq_false_iff_eq, ne_eq, ge_iff_le, gt_iff_lt] at h))
    | (with_reducible apply J.gave')
    | ((with_reducible apply J.kept'); rotate_left; (repeat (first | (with_reducible exact Outs.nil) | ((with_reducible apply Outs.cons); (repeat (first | with_reducible exact Out.here | with_reducible apply Out.there))))))
  all_goals
    first
    | (rename_i Bs Bn
       exact J.post ⟨Bs, Bn, rfl, rfl⟩ (.cons (.there .here) (.cons .here .nil)))
    | (trace_state; fail)
theorem J.rowCap {c : Cx} {l : TL} {H : List Asrt} {G : Act → World → Prop} {m E sz : Nat} {C : List Value} {v : Value} (hm : In (Eng.row v E sz m C) H) (K : (∀ ao n cap, v = .slice ao n cap → cap ≤ maxLen) → J c l H G) : J c l H G := J.mk fun a w s => by
  refine (K fun ao n cap e => ?_).out a w s
  subst e
  exact (s.2.2.rd_row hm).2.2.2.2
theorem sum_ (ao : Option Addr) (n cap : Nat) (l : List UInt8) (w : World) (hw : Rd w ao (bcs l) ∧ n = l.length ∧ l.length ≤ 1099511627776) : CSpec Try.prog 126 [.slice ao n cap] [] w (Fresh 5 1 32 (bcs (sha l)) []) := by
  obtain ⟨hr, rfl, hl⟩ := hw
  refine spec_ownM Try.func126 rfl Try.ntmps126 rfl (l0 := [(0, .slice ao l.length cap)]) rfl ?_
  refine J.noPanic ?_
  repeat' first
    | ((with_reducible apply J.givesW (begin_)); exact rfl; exact rfl)
    | ((with_reducible apply J.givesW (keys_)); exact rfl; exact rfl)
    | ((with_reducible apply J.freshR (pad_ _ _ _ l)); exact rfl; exact rfl; (focus ((exact RH.and (RH.old hr) (RH.of ⟨rfl, hl⟩)))); intro _ _)
    | ((with_reducible apply J.iterC (chunkf _ _ _ 64)); exact rfl; exact rfl; decide; intro _ _)
    | refine J.one ?_
    | refine J.loudS ?_
    | (refine J.loudQ ?_; intro _ _)
    | (refine J.loudB ?_; intro _)
    | (with_reducible apply J.list)
    | ((with_reducible apply JC.draw (id := 9) [0, 0, 2, 6, 0, 30, 63, 127] (.q 0 (.p 1 (.p 2 (.q 3 (.p 4 (.p 5 (.x 6 (.x 7 .nil .none) .none))))))) (by kernel_rfl) ?_ (by kernel_rfl) ?_); (repeat (with_reducible first | exact PanicFree.body | exact PanicFree.np | exact PanicFree.lvS | apply PanicFree.then_ | apply PanicFree.blk)))
    | ((with_reducible apply JC.draw (id := 14) [0, 1, 3, 0, 8, 24, 63, 127, 255] (.p 0 (.p 1 (.q 2 (.p 3 (.p 4 (.q 5 (.p 6 (.p 7 (.x 8 .nil .none))))))))) (by kernel_rfl) ?_ (by kernel_rfl) ?_); (repeat (with_reducible first | exact PanicFree.body | exact PanicFree.np | exact PanicFree.lvS | apply PanicFree.then_ | apply PanicFree.blk)))
    | ((with_reducible apply J.pl2); exact rfl; (first | exact Gd.none | ((with_reducible apply Gd.on); exact rfl; exact rfl)); (repeat (first | (with_reducible exact PendF.nil) | ((with_reducible apply PendF.keep); exact rfl) | ((with_reducible apply PendF.gone); exact rfl))))
    | ((with_reducible apply J.pl2_off); exact rfl; ((with_reducible apply Gd.off); exact rfl; exact rfl; exact rfl); exact rfl; (repeat (first | (with_reducible exact PendF.nil) | ((with_reducible apply PendF.keep); exact rfl) | ((with_reducible apply PendF.gone); exact rfl))))
    | ((with_reducible apply J.pl2_off_none); exact rfl; ((with_reducible apply Gd.off); exact rfl; exact rfl; exact rfl); (repeat (first | (with_reducible exact PendF.nil) | ((with_reducible apply PendF.keep); exact rfl) | ((with_reducible apply PendF.gone); exact rfl))))
    | ((with_reducible first | apply J.psplit0 | apply J.psplit1 | apply J.psplit2); exact rfl; exact rfl; exact rfl)
    | (with_reducible exact J.pl_none)
    | ((with_reducible apply J.gsplit); exact rfl; exact rfl)
    | ((with_reducible first | apply J.cond | apply JC.cond); exact rfl)
    | (intro h; exfalso; fail)
    | (intro h; (try simp only [decide_eq_true_eq, decide_eq_false_iff_not, beq_iff_eq, beq_eq_false_iff_ne, Bool.not_eq_true', Bool.not_eq_false', bne_iff_ne, bne_eq_false_iff_eq, ne_eq, ge_iff_le, gt_iff_lt] at h))
    | (with_reducible apply J.gave')
    | ((with_reducible apply J.kept'); rotate_left; (repeat (first | (with_reducible exact Outs.nil) | ((with_reducible apply Outs.cons); (repeat (first | with_reducible exact Out.here | with_reducible apply Out.there))))))
  rename_i b3 b4 q hq Bs Bn
  apply J.rowCap (v := .slice q.1 (pad l).length q.2) (by (repeat (first | with_reducible exact In.here | with_reducible apply In.there)))
  intro hcm0
  have hcm := hcm0 _ _ _ rfl
  obtain ⟨NB, hNB⟩ : ∃ NB, (pad l).length = NB * 64 := ⟨(pad l).length / 64, by have := pad_mod l; omega⟩
  have e0 : st8 st0 = st8 (sums (pad l) (NB - NB)) := by rw [Nat.sub_self]; rfl
  have hs : sha l = outS (sums (pad l) NB) 8 := by unfold sha; rw [show (pad l).length / 64 = NB by omega]
  rw [hs, e0]
  apply J.rangeG (ps := [19]) (chunk_byte Bs Bn NB 64 (pad l).length q.2 q.1 (by decide) hNB hq hcm) (fun _ (_ : Unit) => True) (fun k _ => [blk b3 (st8 (sums (pad l) (NB - k))) 201, blk b4 (tab (fun j => u32 (kw j)) 64) 198, row (.slice q.1 (pad l).length q.2) 5 1 (pad l).length (bcs (pad l)), blk Bs [.slice q.1 (pad l).length q.2] 54, blk Bn [.int .i64 64] 3]) [falseA] (fun k => [(5, .slice (q.1.map (·.add ((NB - (k + 1)) * 64))) 64 64), (3, .pointer (some ⟨b3, 0, none⟩)), (4, .pointer (some ⟨b4, 0, none⟩))]) ()
  case hg => rfl
  case hps => rfl
  case hlen => exact fun k => rfl
  case hF => exact fun k _ W _ s => ⟨s.cell (.tail _ (.tail _ (.tail _ (.head _)))) rfl, s.cell (.tail _ (.tail _ (.tail _ (.tail _ (.head _))))) rfl⟩
  case hI => trivial
  case ho => ((try dsimp only); (repeat (first | (with_reducible exact Outs.nil) | ((with_reducible apply Outs.cons); (repeat (first | with_reducible exact Out.here | with_reducible apply Out.there))))))
  case hm => kernel_rfl
  case hka => rfl
  case hkb => rfl
  case hassign =>
    intro k A
    try dsimp only [putSl]
    repeat' first
      | ((with_reducible apply J.givesW (begin_)); exact rfl; exact rfl)
      | ((with_reducible apply J.givesW (keys_)); exact rfl; exact rfl)
      | ((with_reducible apply J.freshR (pad_ _ _ _ l)); exact rfl; exact rfl; (focus ((exact RH.and (RH.old hr) (RH.of ⟨rfl, hl⟩)))); intro _ _)
      | ((with_reducible apply J.iterC (chunkf _ _ _ 64)); exact rfl; exact rfl; decide; intro _ _)
      | refine J.one ?_
      | refine J.loudS ?_
      | (refine J.loudQ ?_; intro _ _)
      | (refine J.loudB ?_; intro _)
      | (with_reducible apply J.list)
      | ((with_reducible apply JC.draw (id := 9) [0, 0, 2, 6, 0, 30, 63, 127] (.q 0 (.p 1 (.p 2 (.q 3 (.p 4 (.p 5 (.x 6 (.x 7 .nil .none) .none))))))) (by kernel_rfl) ?_ (by kernel_rfl) ?_); (repeat (with_reducible first | exact PanicFree.body | exact PanicFree.np | exact PanicFree.lvS | apply PanicFree.then_ | apply PanicFree.blk)))
      | ((with_reducible apply JC.draw (id := 14) [0, 1, 3, 0, 8, 24, 63, 127, 255] (.p 0 (.p 1 (.q 2 (.p 3 (.p 4 (.q 5 (.p 6 (.p 7 (.x 8 .nil .none))))))))) (by kernel_rfl) ?_ (by kernel_rfl) ?_); (repeat (with_reducible first | exact PanicFree.body | exact PanicFree.np | exact PanicFree.lvS | apply PanicFree.then_ | apply PanicFree.blk)))
      | ((with_reducible apply J.pl2); exact rfl; (first | exact Gd.none | ((with_reducible apply Gd.on); exact rfl; exact rfl)); (repeat (first | (with_reducible exact PendF.nil) | ((with_reducible apply PendF.keep); exact rfl) | ((with_reducible apply PendF.gone); exact rfl))))
      | ((with_reducible apply J.pl2_off); exact rfl; ((with_reducible apply Gd.off); exact rfl; exact rfl; exact rfl); exact rfl; (repeat (first | (with_reducible exact PendF.nil) | ((with_reducible apply PendF.keep); exact rfl) | ((with_reducible apply PendF.gone); exact rfl))))
      | ((with_reducible apply J.pl2_off_none); exact rfl; ((with_reducible apply Gd.off); exact rfl; exact rfl; exact rfl); (repeat (first | (with_reducible exact PendF.nil) | ((with_reducible apply PendF.keep); exact rfl) | ((with_reducible apply PendF.gone); exact rfl))))
      | ((with_reducible first | apply J.psplit0 | apply J.psplit1 | apply J.psplit2); exact rfl; exact rfl; exact rfl)
      | (with_reducible exact J.pl_none)
      | ((with_reducible apply J.gsplit); exact rfl; exact rfl)
      | ((with_reducible first | apply J.cond | apply JC.cond); exact rfl)
      | (intro h; exfalso; fail)
      | (intro h; (try simp only [decide_eq_true_eq, decide_eq_false_iff_not, beq_iff_eq, beq_eq_false_iff_ne, Bool.not_eq_true', Bool.not_eq_false', bne_iff_ne, bne_eq_false_iff_eq, ne_eq, ge_iff_le, gt_iff_lt] at h))
      | (with_reducible apply J.gave')
      | ((with_reducible apply J.kept'); rotate_left; (repeat (first | (with_reducible exact Outs.nil) | ((with_reducible apply Outs.cons); (repeat (first | with_reducible exact Out.here | with_reducible apply Out.there))))))
    all_goals ((try dsimp only); apply J.stE; ((try dsimp only); repeat (first | exact sub.nil _ | (refine sub.consE rfl ?_ ?_; (first | with_reducible rfl | (fail) | rfl)))))
  case hbody =>
    rintro ll D rc k ⟨⟩ hk _
    try dsimp only at *
    repeat' first
      | ((with_reducible apply J.givesR (schedule_ _ _ (chunk (pad l) (NB - (k + 1))))); exact rfl; exact rfl; focus ((exact RH.and (RH.subM (RH.row (by (repeat (first | with_reducible exact In.here | with_reducible apply In.there))))) (RH.of ⟨chunk_length (by omega), by decide⟩))))
      | refine J.one ?_
      | refine J.loudS ?_
      | (refine J.loudQ ?_; intro _ _)
      | (refine J.loudB ?_; intro _)
      | (with_reducible apply J.list)
      | ((with_reducible apply JC.draw (id := 9) [0, 0, 2, 6, 0, 30, 63, 127] (.q 0 (.p 1 (.p 2 (.q 3 (.p 4 (.p 5 (.x 6 (.x 7 .nil .none) .none))))))) (by kernel_rfl) ?_ (by kernel_rfl) ?_); (repeat (with_reducible first | exact PanicFree.body | exact PanicFree.np | exact PanicFree.lvS | apply PanicFree.then_ | apply PanicFree.blk)))
      | ((with_reducible apply JC.draw (id := 14) [0, 1, 3, 0, 8, 24, 63, 127, 255] (.p 0 (.p 1 (.q 2 (.p 3 (.p 4 (.q 5 (.p 6 (.p 7 (.x 8 .nil .none))))))))) (by kernel_rfl) ?_ (by kernel_rfl) ?_); (repeat (with_reducible first | exact PanicFree.body | exact PanicFree.np | exact PanicFree.lvS | apply PanicFree.then_ | apply PanicFree.blk)))
      | ((with_reducible apply J.pl2); exact rfl; (first | exact Gd.none | ((with_reducible apply Gd.on); exact rfl; exact rfl)); (repeat (first | (with_reducible exact PendF.nil) | ((with_reducible apply PendF.keep); exact rfl) | ((with_reducible apply PendF.gone); exact rfl))))
      | ((with_reducible apply J.pl2_off); exact rfl; ((with_reducible apply Gd.off); exact rfl; exact rfl; exact rfl); exact rfl; (repeat (first | (with_reducible exact PendF.nil) | ((with_reducible apply PendF.keep); exact rfl) | ((with_reducible apply PendF.gone); exact rfl))))
      | ((with_reducible apply J.pl2_off_none); exact rfl; ((with_reducible apply Gd.off); exact rfl; exact rfl; exact rfl); (repeat (first | (with_reducible exact PendF.nil) | ((with_reducible apply PendF.keep); exact rfl) | ((with_reducible apply PendF.gone); exact rfl))))
      | ((with_reducible first | apply J.psplit0 | apply J.psplit1 | apply J.psplit2); exact rfl; exact rfl; exact rfl)
      | (with_reducible exact J.pl_none)
      | ((with_reducible apply J.gsplit); exact rfl; exact rfl)
      | ((with_reducible first | apply J.cond | apply JC.cond); exact rfl)
      | (intro h; exfalso; fail)
      | (intro h; (try simp only [decide_eq_true_eq, decide_eq_false_iff_not, beq_iff_eq, beq_eq_false_iff_ne, Bool.not_eq_true', Bool.not_eq_false', bne_iff_ne, bne_eq_false_iff_eq, ne_eq, ge_iff_le, gt_iff_lt] at h))
      | (with_reducible apply J.gave')
      | ((with_reducible apply J.kept'); rotate_left; (repeat (first | (with_reducible exact Outs.nil) | ((with_reducible apply Outs.cons); (repeat (first | with_reducible exact Out.here | with_reducible apply Out.there))))))
    rename_i b6 b7
    apply J.reB (b := b7) (C' := st8 (Sha.rnds (sch (chunk (pad l) (NB - (k + 1))) 48) (sums (pad l) (NB - (k + 1))) 0))
    · (repeat (first | with_reducible exact Upd.here | with_reducible apply Upd.there))
    · rfl
    apply JC.loopI (σ := Nat) (I := fun s => (s ≤ 64)) (L := fun s => [(23, .agg (tab (fun j => u32 (sch (chunk (pad l) (NB - (k + 1))) 48 j)) 64).toArray), (24, .int .i64 (s : Int)), (3, .pointer (some ⟨b3, 0, none⟩)), (4, .pointer (some ⟨b4, 0, none⟩)), (7, .pointer (some ⟨b7, 0, none⟩))]) (HH := fun s => [blk b7 (st8 (Sha.rnds (sch (chunk (pad l) (NB - (k + 1))) 48) (sums (pad l) (NB - (k + 1))) s)) 201, blk b6 (tab (fun j => u32 (sch (chunk (pad l) (NB - (k + 1))) 48 j)) 64) 198, obj ll (.loop rc), obj D (.deferred (some [])), blk b3 (st8 (sums (pad l) (NB - (k + 1)))) 201, blk b4 (tab (fun j => u32 (kw j)) 64) 198, row (.slice q.1 (pad l).length q.2) 5 1 (pad l).length (bcs (pad l)), blk Bs [.slice q.1 (pad l).length q.2] 54, blk Bn [.int .i64 64] 3]) (m := fun s => 64 - s) (s0 := 0)
    · ((try dsimp only); (exact Nat.zero_le _))
    · ((try dsimp only); repeat (first | exact sub.nil _ | (refine sub.consE rfl ?_ ?_; (first | with_reducible rfl | (fail) | rfl))))
    · ((try dsimp only); (repeat (first | (with_reducible exact Outs.nil) | ((with_reducible apply Outs.cons); (repeat (first | with_reducible exact Out.here | with_reducible apply Out.there))))))
    rintro nn j hnn hJ hK
    try dsimp only at hnn hJ ⊢
    repeat' first
      | (refine J.qv ?_; (with_reducible apply exq); focus (first
        | ((with_reducible apply Qv.index1); exact rfl; exact rfl; (constructor <;> omega); exact tab_at rfl (by omega))
        | ((with_reducible apply Qv.indexArr); exact rfl; exact rfl; (constructor <;> omega); exact rfl)))
      | (refine J.qr ?_; (with_reducible apply exq); focus (first
        | ((with_reducible apply Qr.load1); exact rfl; (repeat (first | with_reducible exact In.here | with_reducible apply In.there)); exact tab_at rfl (by omega))))
      | (refine J.qo ?_; refine ⟨?_, ?_⟩; focus (first
        | ((with_reducible apply Qr.load1); exact rfl; (repeat (first | with_reducible exact In.here | with_reducible apply In.there)); exact tab_at rfl (by omega))))
      | ((with_reducible apply J.givesW (round_ _ _)); exact rfl; exact rfl)
      | refine J.one ?_
      | refine J.loudS ?_
      | (refine J.loudQ ?_; intro _ _)
      | (refine J.loudB ?_; intro _)
      | (with_reducible apply J.list)
      | ((with_reducible apply JC.draw (id := 9) [0, 0, 2, 6, 0, 30, 63, 127] (.q 0 (.p 1 (.p 2 (.q 3 (.p 4 (.p 5 (.x 6 (.x 7 .nil .none) .none))))))) (by kernel_rfl) ?_ (by kernel_rfl) ?_); (repeat (with_reducible first | exact PanicFree.body | exact PanicFree.np | exact PanicFree.lvS | apply PanicFree.then_ | apply PanicFree.blk)))
      | ((with_reducible apply JC.draw (id := 14) [0, 1, 3, 0, 8, 24, 63, 127, 255] (.p 0 (.p 1 (.q 2 (.p 3 (.p 4 (.q 5 (.p 6 (.p 7 (.x 8 .nil .none))))))))) (by kernel_rfl) ?_ (by kernel_rfl) ?_); (repeat (with_reducible first | exact PanicFree.body | exact PanicFree.np | exact PanicFree.lvS | apply PanicFree.then_ | apply PanicFree.blk)))
      | ((with_reducible apply J.pl2); exact rfl; (first | exact Gd.none | ((with_reducible apply Gd.on); exact rfl; exact rfl)); (repeat (first | (with_reducible exact PendF.nil) | ((with_reducible apply PendF.keep); exact rfl) | ((with_reducible apply PendF.gone); exact rfl))))
      | ((with_reducible apply J.pl2_off); exact rfl; ((with_reducible apply Gd.off); exact rfl; exact rfl; exact rfl); exact rfl; (repeat (first | (with_reducible exact PendF.nil) | ((with_reducible apply PendF.keep); exact rfl) | ((with_reducible apply PendF.gone); exact rfl))))
      | ((with_reducible apply J.pl2_off_none); exact rfl; ((with_reducible apply Gd.off); exact rfl; exact rfl; exact rfl); (repeat (first | (with_reducible exact PendF.nil) | ((with_reducible apply PendF.keep); exact rfl) | ((with_reducible apply PendF.gone); exact rfl))))
      | ((with_reducible first | apply J.psplit0 | apply J.psplit1 | apply J.psplit2); exact rfl; exact rfl; exact rfl)
      | (with_reducible exact J.pl_none)
      | ((with_reducible apply J.gsplit); exact rfl; exact rfl)
      | ((with_reducible first | apply J.cond | apply JC.cond); exact rfl)
      | (intro h; exfalso; (first | (simp at h; done) | (simp at h; omega) | omega))
      | (intro h; (try simp only [decide_eq_true_eq, decide_eq_false_iff_not, beq_iff_eq, beq_eq_false_iff_ne, Bool.not_eq_true', Bool.not_eq_false', bne_iff_ne, bne_eq_false_iff_eq, ne_eq, ge_iff_le, gt_iff_lt] at h))
      | (with_reducible apply J.gave')
      | ((with_reducible apply J.kept'); rotate_left; (repeat (first | (with_reducible exact Outs.nil) | ((with_reducible apply Outs.cons); (repeat (first | with_reducible exact Out.here | with_reducible apply Out.there))))))
    · have hq : j < 64 := by omega
      apply J.reB (b := b7) (C' := st8 (Sha.rnds (sch (chunk (pad l) (NB - (k + 1))) 48) (sums (pad l) (NB - (k + 1))) (j + 1)))
      · (repeat (first | with_reducible exact Upd.here | with_reducible apply Upd.there))
      · have hx : 0 + (j : Int).toNat * 1 = j := by omega
        have hy : (j : Int).toNat * 1 = j := by omega
        first
        | rfl
        | (rw [hx]; rfl)
        | (rw [hx, hy]; rfl)
        | (trace_state; fail)
      (apply JC.againI hK (s' := (j + 1)); (focus (omega)); (focus ((try dsimp only); omega)); (focus (((try dsimp only); repeat (first | exact sub.nil _ | (refine sub.consE rfl ?_ ?_; (first | with_reducible rfl | ((focus (congr 1; omega))) | rfl)))))); ((try dsimp only); (repeat (first | (with_reducible exact Outs.nil) | ((with_reducible apply Outs.cons); (repeat (first | with_reducible exact Out.here | with_reducible apply Out.there)))))))
    have e0 : j = 64 := by omega
    subst e0
    repeat' first
      | (with_reducible refine JC.rounds 9 ?_)
      | (with_reducible apply JC.round)
      | refine J.one ?_
      | refine J.loudS ?_
      | (refine J.loudQ ?_; intro _ _)
      | (refine J.loudB ?_; intro _)
      | (with_reducible apply J.list)
      | ((with_reducible apply JC.draw (id := 9) [0, 0, 2, 6, 0, 30, 63, 127] (.q 0 (.p 1 (.p 2 (.q 3 (.p 4 (.p 5 (.x 6 (.x 7 .nil .none) .none))))))) (by kernel_rfl) ?_ (by kernel_rfl) ?_); (repeat (with_reducible first | exact PanicFree.body | exact PanicFree.np | exact PanicFree.lvS | apply PanicFree.then_ | apply PanicFree.blk)))
      | ((with_reducible apply JC.draw (id := 14) [0, 1, 3, 0, 8, 24, 63, 127, 255] (.p 0 (.p 1 (.q 2 (.p 3 (.p 4 (.q 5 (.p 6 (.p 7 (.x 8 .nil .none))))))))) (by kernel_rfl) ?_ (by kernel_rfl) ?_); (repeat (with_reducible first | exact PanicFree.body | exact PanicFree.np | exact PanicFree.lvS | apply PanicFree.then_ | apply PanicFree.blk)))
      | ((with_reducible apply J.pl2); exact rfl; (first | exact Gd.none | ((with_reducible apply Gd.on); exact rfl; exact rfl)); (repeat (first | (with_reducible exact PendF.nil) | ((with_reducible apply PendF.keep); exact rfl) | ((with_reducible apply PendF.gone); exact rfl))))
      | ((with_reducible apply J.pl2_off); exact rfl; ((with_reducible apply Gd.off); exact rfl; exact rfl; exact rfl); exact rfl; (repeat (first | (with_reducible exact PendF.nil) | ((with_reducible apply PendF.keep); exact rfl) | ((with_reducible apply PendF.gone); exact rfl))))
      | ((with_reducible apply J.pl2_off_none); exact rfl; ((with_reducible apply Gd.off); exact rfl; exact rfl; exact rfl); (repeat (first | (with_reducible exact PendF.nil) | ((with_reducible apply PendF.keep); exact rfl) | ((with_reducible apply PendF.gone); exact rfl))))
      | ((with_reducible first | apply J.psplit0 | apply J.psplit1 | apply J.psplit2); exact rfl; exact rfl; exact rfl)
      | (with_reducible exact J.pl_none)
      | ((with_reducible apply J.gsplit); exact rfl; exact rfl)
      | ((with_reducible first | apply J.cond | apply JC.cond); exact rfl)
      | (intro h; exfalso; (first | (revert h; decide) | (simp at h; done)))
      | (intro h; (try simp only [decide_eq_true_eq, decide_eq_false_iff_not, beq_iff_eq, beq_eq_false_iff_ne, Bool.not_eq_true', Bool.not_eq_false', bne_iff_ne, bne_eq_false_iff_eq, ne_eq, ge_iff_le, gt_iff_lt] at h))
      | (with_reducible apply J.gave')
      | ((with_reducible apply J.kept'); rotate_left; (repeat (first | (with_reducible exact Outs.nil) | ((with_reducible apply Outs.cons); (repeat (first | with_reducible exact Out.here | with_reducible apply Out.there))))))
    all_goals
      first
      | (have e1 : NB - k = NB - (k + 1) + 1 := by omega
         apply J.reB (b := b3) (C' := st8 (sums (pad l) (NB - (k + 1) + 1)))
         · (repeat (first | with_reducible exact Upd.here | with_reducible apply Upd.there))
         · rfl
         apply J.lvN () trivial
         (dsimp only [List.cons_append, List.nil_append]; rw [e1]; (repeat (first | (with_reducible exact Outs.nil) | ((with_reducible apply Outs.cons); (repeat (first | with_reducible exact Out.here | with_reducible apply Out.there)))))))
      | (trace_state; fail)
  case hdone =>
    rintro ⟨⟩ _ D
    try dsimp only at *
    repeat' first
      | ((with_reducible apply J.givesW (begin_)); exact rfl; exact rfl)
      | ((with_reducible apply J.givesW (keys_)); exact rfl; exact rfl)
      | ((with_reducible apply J.freshR (pad_ _ _ _ l)); exact rfl; exact rfl; (focus ((exact RH.and (RH.old hr) (RH.of ⟨rfl, hl⟩)))); intro _ _)
      | ((with_reducible apply J.iterC (chunkf _ _ _ 64)); exact rfl; exact rfl; decide; intro _ _)
      | refine J.one ?_
      | refine J.loudS ?_
      | (refine J.loudQ ?_; intro _ _)
      | (refine J.loudB ?_; intro _)
      | (with_reducible apply J.list)
      | ((with_reducible apply JC.draw (id := 9) [0, 0, 2, 6, 0, 30, 63, 127] (.q 0 (.p 1 (.p 2 (.q 3 (.p 4 (.p 5 (.x 6 (.x 7 .nil .none) .none))))))) (by kernel_rfl) ?_ (by kernel_rfl) ?_); (repeat (with_reducible first | exact PanicFree.body | exact PanicFree.np | exact PanicFree.lvS | apply PanicFree.then_ | apply PanicFree.blk)))
      | ((with_reducible apply JC.draw (id := 14) [0, 1, 3, 0, 8, 24, 63, 127, 255] (.p 0 (.p 1 (.q 2 (.p 3 (.p 4 (.q 5 (.p 6 (.p 7 (.x 8 .nil .none))))))))) (by kernel_rfl) ?_ (by kernel_rfl) ?_); (repeat (with_reducible first | exact PanicFree.body | exact PanicFree.np | exact PanicFree.lvS | apply PanicFree.then_ | apply PanicFree.blk)))
      | ((with_reducible apply J.pl2); exact rfl; (first | exact Gd.none | ((with_reducible apply Gd.on); exact rfl; exact rfl)); (repeat (first | (with_reducible exact PendF.nil) | ((with_reducible apply PendF.keep); exact rfl) | ((with_reducible apply PendF.gone); exact rfl))))
      | ((with_reducible apply J.pl2_off); exact rfl; ((with_reducible apply Gd.off); exact rfl; exact rfl; exact rfl); exact rfl; (repeat (first | (with_reducible exact PendF.nil) | ((with_reducible apply PendF.keep); exact rfl) | ((with_reducible apply PendF.gone); exact rfl))))
      | ((with_reducible apply J.pl2_off_none); exact rfl; ((with_reducible apply Gd.off); exact rfl; exact rfl; exact rfl); (repeat (first | (with_reducible exact PendF.nil) | ((with_reducible apply PendF.keep); exact rfl) | ((with_reducible apply PendF.gone); exact rfl))))
      | ((with_reducible first | apply J.psplit0 | apply J.psplit1 | apply J.psplit2); exact rfl; exact rfl; exact rfl)
      | (with_reducible exact J.pl_none)
      | ((with_reducible apply J.gsplit); exact rfl; exact rfl)
      | ((with_reducible first | apply J.cond | apply JC.cond); exact rfl)
      | (intro h; exfalso; fail)
      | (intro h; (try simp only [decide_eq_true_eq, decide_eq_false_iff_not, beq_iff_eq, beq_eq_false_iff_ne, Bool.not_eq_true', Bool.not_eq_false', bne_iff_ne, bne_eq_false_iff_eq, ne_eq, ge_iff_le, gt_iff_lt] at h))
      | (with_reducible apply J.gave')
      | ((with_reducible apply J.kept'); rotate_left; (repeat (first | (with_reducible exact Outs.nil) | ((with_reducible apply Outs.cons); (repeat (first | with_reducible exact Out.here | with_reducible apply Out.there))))))
    refine J.nilRow 5 1 ?_
    apply J.reR (v' := .slice none (4 * 0) 0) (n' := 4 * 0) (C' := bcs (outS (sums (pad l) NB) 0))
    · (repeat (first | with_reducible exact Upd.here | with_reducible apply Upd.there))
    · rfl
    · rfl
    · rfl
    apply J.loopI (σ := (Nat × (Option Addr × Nat))) (I := fun s => (s.1 ≤ 8)) (L := fun s => [(11, .slice s.2.1 (4 * s.1) s.2.2), (48, .agg (st8 (sums (pad l) NB)).toArray), (49, .int .i64 (s.1 : Int))]) (HH := fun s => [obj D (.deferred (some [])), row (.slice s.2.1 (4 * s.1) s.2.2) 5 1 (4 * s.1) (bcs (outS (sums (pad l) NB) s.1))]) (m := fun s => 8 - s.1) (s0 := (0, (none, 0)))
    · ((try dsimp only); (exact Nat.zero_le _))
    · ((try dsimp only); repeat (first | exact sub.nil _ | (refine sub.consE rfl ?_ ?_; (first | with_reducible rfl | (fail) | rfl))))
    · ((try dsimp only); (repeat (first | (with_reducible exact Outs.nil) | ((with_reducible apply Outs.cons); (repeat (first | with_reducible exact Out.here | with_reducible apply Out.there))))))
    rintro ⟨i, q2⟩ hI
    try dsimp only at hI ⊢
    have hlt := (sums (pad l) NB i).isLt
    have hix : (i : Int).toNat * 1 = i := by omega
    repeat' first
      | (refine J.qv ?_; (with_reducible apply exq); focus (first
        | ((with_reducible apply Qv.index1); exact rfl; exact rfl; (constructor <;> omega); (rw [hix, st8_tab]; exact tab_get (by omega)))
        | ((with_reducible apply Qv.conv); exact rfl; exact wr64 (z := (((sums (pad l) NB i).toNat : Nat) : Int)) (by omega) (by omega) rfl)))
      | ((with_reducible apply J.freshR (num_ (sums (pad l) NB i).toNat 4)); exact rfl; exact rfl; (focus ((refine RH.of ?_; omega))); intro _ _)
      | refine J.one ?_
      | refine J.loudS ?_
      | (refine J.loudQ ?_; intro _ _)
      | (refine J.loudB ?_; intro _)
      | (with_reducible apply J.list)
      | ((with_reducible apply JC.draw (id := 9) [0, 0, 2, 6, 0, 30, 63, 127] (.q 0 (.p 1 (.p 2 (.q 3 (.p 4 (.p 5 (.x 6 (.x 7 .nil .none) .none))))))) (by kernel_rfl) ?_ (by kernel_rfl) ?_); (repeat (with_reducible first | exact PanicFree.body | exact PanicFree.np | exact PanicFree.lvS | apply PanicFree.then_ | apply PanicFree.blk)))
      | ((with_reducible apply JC.draw (id := 14) [0, 1, 3, 0, 8, 24, 63, 127, 255] (.p 0 (.p 1 (.q 2 (.p 3 (.p 4 (.q 5 (.p 6 (.p 7 (.x 8 .nil .none))))))))) (by kernel_rfl) ?_ (by kernel_rfl) ?_); (repeat (with_reducible first | exact PanicFree.body | exact PanicFree.np | exact PanicFree.lvS | apply PanicFree.then_ | apply PanicFree.blk)))
      | ((with_reducible apply J.pl2); exact rfl; (first | exact Gd.none | ((with_reducible apply Gd.on); exact rfl; exact rfl)); (repeat (first | (with_reducible exact PendF.nil) | ((with_reducible apply PendF.keep); exact rfl) | ((with_reducible apply PendF.gone); exact rfl))))
      | ((with_reducible apply J.pl2_off); exact rfl; ((with_reducible apply Gd.off); exact rfl; exact rfl; exact rfl); exact rfl; (repeat (first | (with_reducible exact PendF.nil) | ((with_reducible apply PendF.keep); exact rfl) | ((with_reducible apply PendF.gone); exact rfl))))
      | ((with_reducible apply J.pl2_off_none); exact rfl; ((with_reducible apply Gd.off); exact rfl; exact rfl; exact rfl); (repeat (first | (with_reducible exact PendF.nil) | ((with_reducible apply PendF.keep); exact rfl) | ((with_reducible apply PendF.gone); exact rfl))))
      | ((with_reducible first | apply J.psplit0 | apply J.psplit1 | apply J.psplit2); exact rfl; exact rfl; exact rfl)
      | (with_reducible exact J.pl_none)
      | ((with_reducible apply J.gsplit); exact rfl; exact rfl)
      | ((with_reducible first | apply J.cond | apply JC.cond); exact rfl)
      | (intro h; exfalso; (first | (simp at h; done) | (simp at h; omega) | omega))
      | (intro h; (try simp only [decide_eq_true_eq, decide_eq_false_iff_not, beq_iff_eq, beq_eq_false_iff_ne, Bool.not_eq_true', Bool.not_eq_false', bne_iff_ne, bne_eq_false_iff_eq, ne_eq, ge_iff_le, gt_iff_lt] at h))
      | (with_reducible apply J.gave')
      | ((with_reducible apply J.kept'); rotate_left; (repeat (first | (with_reducible exact Outs.nil) | ((with_reducible apply Outs.cons); (repeat (first | with_reducible exact Out.here | with_reducible apply Out.there))))))
    all_goals
      first
      | (have hq : i < 8 := by omega
         rename_i q3 _ q4 _
         apply J.reR (v' := .slice q4.1 (4 * (i + 1)) q4.2) (n' := 4 * (i + 1)) (C' := bcs (outS (sums (pad l) NB) (i + 1)))
         · (repeat (first | with_reducible exact Upd.here | with_reducible apply Upd.there))
         · rfl
         · rfl
         · exact (bcs_append _ _).symm
         (apply J.againI (s := (i, q2)) (s' := (i + 1, q4)); (focus (omega)); (focus ((try dsimp only); (show i + 1 ≤ 8; omega))); (focus (((try dsimp only); repeat (first | exact sub.nil _ | (refine sub.consE rfl ?_ ?_; (first | with_reducible rfl | ((focus (first | rfl | (congr 1; omega)))) | rfl)))))); ((try dsimp only); (repeat (first | (with_reducible exact Outs.nil) | ((with_reducible apply Outs.cons); (repeat (first | with_reducible exact Out.here | with_reducible apply Out.there))))))))
      | (have hq : i = 8 := by omega
         subst hq
         ((with_reducible apply J.freshRow); (repeat (first | with_reducible exact Out.here | with_reducible apply Out.there)); exact rfl; rfl; rfl))
      | (trace_state; fail)
  case hstop =>
    intro D
    exact J.absurd_ (.there .here)
theorem text_ (ao : Option Addr) (n cap : Nat) (L : List (List UInt8)) (w : World) (hw : RdS w ao L ∧ n = L.length ∧ L.flatten.length ≤ 1099511627776 ∧ L.length ≤ 1099511627776) : CSpec Try.prog 107 [.slice ao n cap] [] w (Gives (str (sha L.flatten))) := by
  obtain ⟨hr, hn, hf, hm⟩ := hw
  refine spec_own0 Try.func107 rfl Try.ntmps107 rfl (l0 := [(0, .slice ao n cap)]) rfl ?_
  repeat' first
    | (refine J.qr ?_; (with_reducible apply exq); focus (first
      | ((with_reducible apply Qr.toStr); exact rfl; (with_reducible apply RH.row; (repeat (first | with_reducible exact In.here | with_reducible apply In.there))); exact (sha_length _).symm)))
    | ((with_reducible apply J.freshR (cat_ _ _ _ L)); exact rfl; exact rfl; (focus (exact RH.and (RH.sold hr) (RH.of ⟨hn, hf, hm⟩))); intro _ _)
    | ((with_reducible apply J.freshR (sum_ _ _ _ L.flatten)); exact rfl; exact rfl; (focus (exact RH.and (RH.row (by (repeat (first | with_reducible exact In.here | with_reducible apply In.there)))) (RH.of ⟨rfl, hf⟩))); intro _ _)
    | refine J.one ?_
    | refine J.loudS ?_
    | (refine J.loudQ ?_; intro _ _)
    | (refine J.loudB ?_; intro _)
    | (with_reducible apply J.list)
    | ((with_reducible apply J.gsplit); exact rfl; exact rfl)
    | ((with_reducible first | apply J.cond | apply JC.cond); exact rfl)
    | (intro h; exfalso; (first | (simp at h; done) | (simp at h; omega)))
    | (intro h; (try simp only [decide_eq_true_eq, decide_eq_false_iff_not, beq_iff_eq, beq_eq_false_iff_ne, Bool.not_eq_true', Bool.not_eq_false', bne_iff_ne, bne_eq_false_iff_eq, ne_eq, ge_iff_le, gt_iff_lt] at h))
    | (with_reducible apply J.gave')
    | ((with_reducible apply J.kept'); rotate_left; (repeat (first | (with_reducible exact Outs.nil) | ((with_reducible apply Outs.cons); (repeat (first | with_reducible exact Out.here | with_reducible apply Out.there))))))
  all_goals (rfl)
theorem short_ (ao : Option Addr) (n cap : Nat) (L : List (List UInt8)) (w : World) (hw : RdS w ao L ∧ n = L.length ∧ L.flatten.length ≤ 1099511627776 ∧ L.length ≤ 1099511627776) : CSpec Try.prog 121 [.slice ao n cap] [] w (Gives (str (short L.flatten))) := by
  obtain ⟨hr, hn, hf, hm⟩ := hw
  refine spec_own0 Try.func121 rfl Try.ntmps121 rfl (l0 := [(0, .slice ao n cap)]) rfl ?_
  repeat' first
    | (refine J.qv ?_; (with_reducible apply exq); focus (first
      | ((with_reducible apply Qv.slS (p := 0) (r := 8)); exact rfl; exact Bd.none; exact Bd.some rfl rfl; omega; (rw [sha_length]; omega))))
    | ((with_reducible apply J.givesR (text_ _ _ _ L)); exact rfl; exact rfl; focus (exact RH.and (RH.sold hr) (RH.of ⟨hn, hf, hm⟩)))
    | refine J.one ?_
    | refine J.loudS ?_
    | (refine J.loudQ ?_; intro _ _)
    | (refine J.loudB ?_; intro _)
    | (with_reducible apply J.list)
    | ((with_reducible apply J.gsplit); exact rfl; exact rfl)
    | ((with_reducible first | apply J.cond | apply JC.cond); exact rfl)
    | (intro h; exfalso; (first | (simp at h; done) | (simp at h; omega)))
    | (intro h; (try simp only [decide_eq_true_eq, decide_eq_false_iff_not, beq_iff_eq, beq_eq_false_iff_ne, Bool.not_eq_true', Bool.not_eq_false', bne_iff_ne, bne_eq_false_iff_eq, ne_eq, ge_iff_le, gt_iff_lt] at h))
    | (with_reducible apply J.gave')
    | ((with_reducible apply J.kept'); rotate_left; (repeat (first | (with_reducible exact Outs.nil) | ((with_reducible apply Outs.cons); (repeat (first | with_reducible exact Out.here | with_reducible apply Out.there))))))
  all_goals (rfl)
end Go.Proofs.Ytfcaeifpclpnoaa.Hsum
