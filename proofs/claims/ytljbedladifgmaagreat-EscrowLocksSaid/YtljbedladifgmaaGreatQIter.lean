/-
  The iterators Backward and Chunk of slices keep their word. No conditions.
-/
import Derived.RegionIn
import Derived.BigRegionIn
import Derived.Test.YtljbedladifgmaaGreatQRng
import Derived.Test.YtljbedladifgmaaGreatQTy
namespace Go.Proofs.YtljbedladifgmaaGreat.Iter
open Go Go.RowKit Go.Shelf Eng
set_option linter.unusedVariables false
set_option maxRecDepth 100000
set_option linter.unusedSimpArgs false
set_option maxHeartbeats 2000000
attribute [local go_sem] Oper.semAt_some
theorem wr1 {n : Nat} (h : n ≤ maxLen) : IntKind.i64.wrap ((n : Int) - 1) = (n : Int) - 1 := wr64 (by omega) (by simp only [maxLen] at h; omega) rfl
theorem mul_step {N k sz : Nat} (h : k < N) : (N - (k + 1)) * sz + sz = (N - k) * sz ∧ (N - k) * sz ≤ N * sz := by
  refine ⟨?_, Nat.mul_le_mul_right _ (Nat.sub_le _ _)⟩
  have : N - k = N - (k + 1) + 1 := by omega
  rw [this, Nat.succ_mul]
/-- Piece by piece: N pieces of sz each. -/
theorem chunk_byte (Bs Bn N sz n cap : Nat) (ao : Option Addr) (hz : 0 < sz) (hn : n = N * sz) (hc : n ≤ cap) (hm : cap ≤ maxLen) : Iter Tryz.prog 150 [.pointer (some ⟨Bs, 0, none⟩), .pointer (some ⟨Bn, 0, none⟩)] N
    (fun k => [.slice (ao.map (·.add ((N - (k + 1)) * sz))) sz sz]) (fun k W => W.cell? ⟨Bs, 0, none⟩ = some (.slice ao n cap) ∧ W.cell? ⟨Bn, 0, none⟩ = some (.int .i64 (sz : Int))) := by
  intro ll J Jx W hJ hst hY h0
  have hs0 := (hJ N W h0).1
  have hs1 := (hJ N W h0).2
  refine callsIn_of_wp Tryz.func150 rfl trivial ?_ rfl
  simp only [Tryz.ntmps150, List.size_toArray, List.length_cons, List.length_nil, Nat.reduceAdd, Nat.reduceSub, Array.replicate_succ, Array.replicate_zero, List.push_toArray, List.append_toArray, List.nil_append, List.cons_append]
  gi_wp2
  gi_loopw [4] (fun i wr => ∃ k j : Nat, k ≤ N ∧ j = (N - k) * sz ∧ i = .int .i64 (j : Int) ∧ J k wr) (fun i _ => (n + 1 - intOf i).toNat)
  case atStart => exact ⟨N, 0, by omega, by simp, rfl, h0⟩
  case round =>
    obtain ⟨k, j, hk, hj, rfl, hJs⟩ := hrel
    have hs := (hJ k wr hJs).1
    have ht := (hJ k wr hJs).2
    cases k with
    | zero =>
      have e0 : j = n := by rw [hn, hj]; simp
      subst e0
      gi_wp2
      go_end0
      exact ⟨⟨_, rfl⟩, .inl hJs⟩
    | succ k =>
      obtain ⟨m1, m2⟩ := mul_step (sz := sz) (show k < N by omega)
      rw [← hj] at m1
      rw [← hn] at m2
      have hlt : (j : Int) < (n : Int) := by omega
      have hJ2 : J (k + 1) wr.drew := hst _ _ hJs
      have hs2 := (hJ _ _ hJ2).1
      have ht2 := (hJ _ _ hJ2).2
      obtain ⟨fn, tmps, assign, body, hy, hR⟩ := hY k wr.drew (by omega) hJ2
      rw [← hj] at hy
      have d1 : j + sz ≤ cap := by omega
      have d2 : j ≤ j + sz := by omega
      have ew : IntKind.i64.wrap ((j : Int) + (sz : Int)) = ((j + sz : Nat) : Int) := wr64 (by omega) (by simp only [maxLen] at hm; omega) (by omega)
      have d3 : j + sz - j = sz := by omega
      have d4 : ¬ j + sz = j := by omega
      have m3 : (N - k) * sz = j + sz := m1.symm
      have hjn : j + sz ≤ n := by omega
      clear hj m1 m2 hn
      gi_wp2
      gi_region
      gi_wp2
      refine hR.mono ?_
      rintro e W3 (⟨rfl, hJ3⟩ | ⟨rfl, hJx3⟩)
      · have ht3 := (hJ _ _ hJ3).2
        gi_wp2
        go_roundw
        case rel => exact ⟨k, j + sz, by omega, m3.symm, by first | rfl | simp, hJ3⟩
        case measure => first | (simp [intOf]; done) | (simp [intOf]; omega)
      · gi_wp2
        refine bodyPost_ret (results_none rfl _ _ _) rfl ?_
        exact ⟨⟨_, rfl⟩, .inr hJx3⟩
/-- From the top down. -/
theorem back_byte (Bs b n cap : Nat) (x : Nat → Int) (hn : n ≤ maxLen) : Iter Tryz.prog 162 [.pointer (some ⟨Bs, 0, none⟩)] n (fun k => [.int .i64 (k : Int), .int .u8 (x k)])
    (fun k W => W.cell? ⟨Bs, 0, none⟩ = some (.slice (some ⟨b, 0, none⟩) n cap) ∧ ∀ j, k = j + 1 → j < n → W.cell? ⟨b, j, none⟩ = some (.int .u8 (x j))) := by
  intro ll J Jx W hJ hst hY h0
  have hs0 := (hJ n W h0).1
  refine callsIn_of_wp Tryz.func162 rfl trivial ?_ rfl
  simp only [Tryz.ntmps162, List.size_toArray, List.length_cons, List.length_nil, Nat.reduceAdd, Nat.reduceSub, Array.replicate_succ, Array.replicate_zero, List.push_toArray, List.append_toArray, List.nil_append, List.cons_append]
  gi_wp2
  gi_loopw [3] (fun i wr => ∃ k : Nat, k ≤ n ∧ i = .int .i64 ((k : Int) - 1) ∧ J k wr) (fun i _ => (intOf i + 1).toNat)
  case atStart => exact ⟨n, by omega, by first | rfl | (congr 1; unfold wrap64; simp only [maxLen] at hn; omega), h0⟩
  case round =>
    obtain ⟨k, hk, rfl, hJs⟩ := hrel
    have hs := (hJ k wr hJs).1
    cases k with
    | zero =>
      gi_wp2
      go_end0
      exact ⟨⟨_, rfl⟩, .inl hJs⟩
    | succ k =>
      have hk4 : k < n := by omega
      have e1 : ((k + 1 : Nat) : Int) - 1 = (k : Int) := by omega
      rw [e1]
      have hc := (hJ (k + 1) wr hJs).2 k rfl hk4
      obtain ⟨fn, tmps, assign, body, hy, hR⟩ := hY k wr hk4 hJs
      have ew : IntKind.i64.wrap ((k : Int) - 1) = (k : Int) - 1 := wr1 (by omega)
      gi_wp2
      refine hR.mono ?_
      rintro e W3 (⟨rfl, hJ3⟩ | ⟨rfl, hJx3⟩)
      · gi_wp2
        go_roundw
        case rel => exact ⟨k, by omega, by first | rfl | (congr 1), hJ3⟩
        case measure => first | (simp [intOf]; done) | (simp [intOf]; omega) | (rw [ew]; simp [intOf]; omega)
      · gi_wp2
        refine bodyPost_ret (results_none rfl _ _ _) rfl ?_
        exact ⟨⟨_, rfl⟩, .inr hJx3⟩
/-- From the top down. -/
theorem back_uint64 (Bs b n cap : Nat) (x : Nat → Int) (hn : n ≤ maxLen) : Iter Tryz.prog 181 [.pointer (some ⟨Bs, 0, none⟩)] n (fun k => [.int .i64 (k : Int), .int .u64 (x k)])
    (fun k W => W.cell? ⟨Bs, 0, none⟩ = some (.slice (some ⟨b, 0, none⟩) n cap) ∧ ∀ j, k = j + 1 → j < n → W.cell? ⟨b, j, none⟩ = some (.int .u64 (x j))) := by
  intro ll J Jx W hJ hst hY h0
  have hs0 := (hJ n W h0).1
  refine callsIn_of_wp Tryz.func181 rfl trivial ?_ rfl
  simp only [Tryz.ntmps181, List.size_toArray, List.length_cons, List.length_nil, Nat.reduceAdd, Nat.reduceSub, Array.replicate_succ, Array.replicate_zero, List.push_toArray, List.append_toArray, List.nil_append, List.cons_append]
  gi_wp2
  gi_loopw [3] (fun i wr => ∃ k : Nat, k ≤ n ∧ i = .int .i64 ((k : Int) - 1) ∧ J k wr) (fun i _ => (intOf i + 1).toNat)
  case atStart => exact ⟨n, by omega, by first | rfl | (congr 1; unfold wrap64; simp only [maxLen] at hn; omega), h0⟩
  case round =>
    obtain ⟨k, hk, rfl, hJs⟩ := hrel
    have hs := (hJ k wr hJs).1
    cases k with
    | zero =>
      gi_wp2
      go_end0
      exact ⟨⟨_, rfl⟩, .inl hJs⟩
    | succ k =>
      have hk4 : k < n := by omega
      have e1 : ((k + 1 : Nat) : Int) - 1 = (k : Int) := by omega
      rw [e1]
      have hc := (hJ (k + 1) wr hJs).2 k rfl hk4
      obtain ⟨fn, tmps, assign, body, hy, hR⟩ := hY k wr hk4 hJs
      have ew : IntKind.i64.wrap ((k : Int) - 1) = (k : Int) - 1 := wr1 (by omega)
      gi_wp2
      refine hR.mono ?_
      rintro e W3 (⟨rfl, hJ3⟩ | ⟨rfl, hJx3⟩)
      · gi_wp2
        go_roundw
        case rel => exact ⟨k, by omega, by first | rfl | (congr 1), hJ3⟩
        case measure => first | (simp [intOf]; done) | (simp [intOf]; omega) | (rw [ew]; simp [intOf]; omega)
      · gi_wp2
        refine bodyPost_ret (results_none rfl _ _ _) rfl ?_
        exact ⟨⟨_, rfl⟩, .inr hJx3⟩
/-- From the top down. -/
theorem back_int (Bs b n cap : Nat) (x : Nat → Int) (hn : n ≤ maxLen) : Iter Tryz.prog 183 [.pointer (some ⟨Bs, 0, none⟩)] n (fun k => [.int .i64 (k : Int), .int .i64 (x k)])
    (fun k W => W.cell? ⟨Bs, 0, none⟩ = some (.slice (some ⟨b, 0, none⟩) n cap) ∧ ∀ j, k = j + 1 → j < n → W.cell? ⟨b, j, none⟩ = some (.int .i64 (x j))) := by
  intro ll J Jx W hJ hst hY h0
  have hs0 := (hJ n W h0).1
  refine callsIn_of_wp Tryz.func183 rfl trivial ?_ rfl
  simp only [Tryz.ntmps183, List.size_toArray, List.length_cons, List.length_nil, Nat.reduceAdd, Nat.reduceSub, Array.replicate_succ, Array.replicate_zero, List.push_toArray, List.append_toArray, List.nil_append, List.cons_append]
  gi_wp2
  gi_loopw [3] (fun i wr => ∃ k : Nat, k ≤ n ∧ i = .int .i64 ((k : Int) - 1) ∧ J k wr) (fun i _ => (intOf i + 1).toNat)
  case atStart => exact ⟨n, by omega, by first | rfl | (congr 1; unfold wrap64; simp only [maxLen] at hn; omega), h0⟩
  case round =>
    obtain ⟨k, hk, rfl, hJs⟩ := hrel
    have hs := (hJ k wr hJs).1
    cases k with
    | zero =>
      gi_wp2
      go_end0
      exact ⟨⟨_, rfl⟩, .inl hJs⟩
    | succ k =>
      have hk4 : k < n := by omega
      have e1 : ((k + 1 : Nat) : Int) - 1 = (k : Int) := by omega
      rw [e1]
      have hc := (hJ (k + 1) wr hJs).2 k rfl hk4
      obtain ⟨fn, tmps, assign, body, hy, hR⟩ := hY k wr hk4 hJs
      have ew : IntKind.i64.wrap ((k : Int) - 1) = (k : Int) - 1 := wr1 (by omega)
      gi_wp2
      refine hR.mono ?_
      rintro e W3 (⟨rfl, hJ3⟩ | ⟨rfl, hJx3⟩)
      · gi_wp2
        go_roundw
        case rel => exact ⟨k, by omega, by first | rfl | (congr 1), hJ3⟩
        case measure => first | (simp [intOf]; done) | (simp [intOf]; omega) | (rw [ew]; simp [intOf]; omega)
      · gi_wp2
        refine bodyPost_ret (results_none rfl _ _ _) rfl ?_
        exact ⟨⟨_, rfl⟩, .inr hJx3⟩
end Go.Proofs.YtljbedladifgmaaGreat.Iter
