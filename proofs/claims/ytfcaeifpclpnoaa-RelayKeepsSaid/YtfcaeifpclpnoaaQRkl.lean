/-
  The law RelayKeeps. No conditions.
-/
import Derived.Test.YtfcaeifpclpnoaaQRkp
namespace Go.Proofs.Ytfcaeifpclpnoaa.Rkl
open Go Go.RowKit Eng
set_option linter.unusedVariables false
set_option maxRecDepth 100000
set_option linter.unusedSimpArgs false
open Sha Iter Hash Bytes Hsum Wide Tx Field Deal Msg Fld Fld2 Unw Fld3 Cas Rdr Mch Mpt Mrd Ots Mrt Sgn Rly Rly2 Rtp Rkp
set_option maxHeartbeats 3000000
theorem count_c (r n : Nat) (ao : Option Addr) (cap : Nat) (w : World) : CSpec Try.prog 21 [.pointer (some ⟨r, 0, none⟩)] [blk r [.slice ao n cap, .bool true] 99] w (Keeps (.int .i64 (n : Int)) [blk r [.slice ao n cap, .bool true] 99]) := count_ r n (ao, cap) w
theorem hear_1 {m : Mg} (hm : MgIn m) (hk : m.ki = 3) (hE : mgE m = 0) (hf : m.fee = 1) {B : List Mg} (hB : B = []) : hearB B (pRead (mgB m)) = true := by
  subst hB
  rw [read_enc hm hk hE]
  exact hearB_y rfl rfl (by show ¬ m.fee = 0; omega) (by decide) (by
    cases e : conM [] (m3 m) with
    | false => rfl
    | true => exact absurd (conM_iff.1 e) (by simp))
theorem alive22 (w : World) (hw : True) : CSpec Try.prog 17 [] [] w (Gives (.bool true)) := by
  obtain ⟨B0, hB0⟩ : ∃ B0 : List Mg, B0 = [] := ⟨_, rfl⟩
  have hM0 : MsIn B0 := hB0 ▸ fun x hx => by cases hx
  refine spec_own0 Try.func17 rfl Try.ntmps17 rfl (l0 := []) rfl ?_
  repeat' first
    | ((with_reducible apply J.newP rnew_); exact rfl; exact rfl; trivial; intro r9; (try dsimp only [List.cons_append, List.nil_append]); (refine J.nilRowC 47 43 (mgc []) rfl ?_); (apply J.reB (b := r9) (C' := [.slice none (List.length B0) 0, .bool true])); (focus ((repeat (first | with_reducible exact Upd.here | with_reducible apply Upd.there)))); (focus (rw [hB0]; rfl)); (apply J.reR (E := 47) (v := .slice none 0 0) (n := 0) (C := mgc []) (v' := .slice none (List.length B0) 0) (n' := List.length B0) (C' := mgc B0)); (focus ((repeat (first | with_reducible exact Upd.here | with_reducible apply Upd.there)))); (focus (rw [hB0]; rfl)); (focus (rw [hB0]; rfl)); (focus (rw [hB0])))
    | ((with_reducible apply J.keepsW (count_c _ _ _ _)); exact rfl; exact rfl; (repeat (first | (with_reducible exact Outs.nil) | ((with_reducible apply Outs.cons); (repeat (first | with_reducible exact Out.here | with_reducible apply Out.there))))))
    | ((with_reducible apply J.relE release_); exact rfl; exact rfl; intro m hm hk hE hf q8 hq8; (have hy := hear_1 hm hk hE hf hB0))
    | ((with_reducible apply J.hear (hear_ r9 B0 (none, 0) q8 (mgB m) hM0 (by rw [hB0]; decide) hq8)); exact rfl; exact rfl; (repeat (first | (with_reducible exact Outs.nil) | ((with_reducible apply Outs.cons); (repeat (first | with_reducible exact Out.here | with_reducible apply Out.there))))); (intro _ x9; rotate_left; intro h; exfalso; rw [hy] at h; cases h))
    | refine J.one ?_
    | refine J.loudS ?_
    | (refine J.loudQ ?_; intro _ _)
    | (refine J.loudB ?_; intro _)
    | (with_reducible apply J.list)
    | ((with_reducible apply J.gsplit); exact rfl; exact rfl)
    | ((with_reducible first | apply J.cond | apply JC.cond); exact rfl)
    | (intro h; exfalso; (first | (rw [hB0] at h; simp at h; done) | (simp at h; done)))
    | (intro h; (try simp only [decide_eq_true_eq, decide_eq_false_iff_not, beq_iff_eq, beq_eq_false_iff_ne, Bool.not_eq_true', Bool.not_eq_false', bne_iff_ne, bne_eq_false_iff_eq, ne_eq, ge_iff_le, gt_iff_lt] at h))
    | (with_reducible apply J.gave')
    | ((with_reducible apply J.kept'); rotate_left; (repeat (first | (with_reducible exact Outs.nil) | ((with_reducible apply Outs.cons); (repeat (first | with_reducible exact Out.here | with_reducible apply Out.there))))))
  all_goals first
    | rfl
    | (simp only [retv]; rw [hB0]; rfl)
    | (simp [retv, hB0]; done)
    | (trace_state; fail)
/-- The release that is heard as number i. -/
def mm (i : Nat) : Mg := ⟨3, ak0, bd0, ⟨0, [49, 50, 51, 52, 53, 54, 55, 56], 2, 0, 0, 0, [120]⟩, 50, 0, (i : Int) + 1, []⟩
def mmc (i : Nat) : List Value := .int .i64 3 :: (ak0.cells ++ (bd0.cells ++ (Iv.cells ⟨0, [49, 50, 51, 52, 53, 54, 55, 56], 2, 0, 0, 0, [120]⟩ ++ (wv 50 ++ (.int .i64 0 :: ([.int .u64 ((i : Int) + 1), .int .u64 0, .int .u64 0, .int .u64 0] ++ [str []]))))))
theorem mm_cells {i : Nat} (h : i < 1000) : mmc i = (mm i).cells := by
  have e := wv_small (n := (i : Int) + 1) (by unfold Wo; omega)
  unfold mmc mm Mg.cells
  rw [e]
theorem mm_in {i : Nat} (h : i < 1000) : MgIn (mm i) := ⟨i64_of (x := 3) (by decide) (by decide), ak0_in, bd0_in, ⟨i64_0, by show (8 : Nat) ≤ _; unfold maxLen; omega, i64_of (x := 2) (by decide) (by decide), i64_0, i64_0, i64_0, by show (1 : Nat) ≤ _; unfold maxLen; omega⟩, wd_k (n := 50) (by decide) (by decide), i64_0, wd_k (n := (i : Int) + 1) (by omega) (by omega), Nat.zero_le _⟩
theorem mm_E (i : Nat) : mgE (mm i) = 0 := by
  rw [mgE_3 rfl]
  show (if invE 0 [49, 50, 51, 52, 53, 54, 55, 56] 2 0 0 0 [120] = 0 then (if sndE 50 0 = 0 then (if (1024 : Int) < (List.length ([] : List UInt8) : Nat) then (5 : Int) else 0) else sndE 50 0) else invE 0 [49, 50, 51, 52, 53, 54, 55, 56] 2 0 0 0 [120]) = 0
  decide
/-- What is kept by then. -/
def BB (i : Nat) : List Mg := (List.range (min i 16)).map mm
theorem BB_len (i : Nat) : (BB i).length = min i 16 := by simp [BB]
theorem BB_s {i : Nat} (h : i < 16) : BB i ++ [mm i] = BB (i + 1) := by
  unfold BB
  rw [Nat.min_eq_left (by omega), Nat.min_eq_left (by omega), List.range_succ, List.map_append]
  rfl
theorem BB_t {i : Nat} (h : ¬ i < 16) : BB (i + 1) = BB i := by
  unfold BB
  rw [Nat.min_eq_right (by omega), Nat.min_eq_right (by omega)]
theorem BB_in (i : Nat) : MsIn (BB i) := fun m hm => by
  simp only [BB, List.mem_map, List.mem_range] at hm
  obtain ⟨j, hj, rfl⟩ := hm
  exact mm_in (by omega)
theorem mm_no {i : Nat} : ¬ mm i ∈ BB i := fun h => by
  simp only [BB, List.mem_map, List.mem_range] at h
  obtain ⟨j, hj, e⟩ := h
  have h1 := congrArg Mg.fee e
  have h2 : ((j : Int) + 1) = (i : Int) + 1 := h1
  omega
theorem read_mm {i : Nat} (h : i < 1000) : pRead (mgB (mm i)) = (mm i, 0) := read_enc (mm_in h) rfl (mm_E i)
theorem hear_y {i : Nat} (h : i < 16) : hearB (BB i) (pRead (mgB (mm i))) = true := by
  rw [read_mm (by omega)]
  exact hearB_y rfl rfl (by show ¬ (i : Int) + 1 = 0; omega) (by rw [BB_len]; omega) (by
    cases e : conM (BB i) (mm i) with
    | false => rfl
    | true => exact absurd (conM_iff.1 e) mm_no)
theorem hear_n {i : Nat} (h : ¬ i < 16) (h2 : i < 1000) : hearB (BB i) (pRead (mgB (mm i))) = false := by
  rw [read_mm h2]
  exact hearB_n (.inr (.inr (.inr (.inl (by rw [BB_len]; omega)))))
theorem rem24 (k : Nat) (h : k < 256) : ((k : Nat) : Int).tmod 24 = ((k % 24 : Nat) : Int) := by
  rw [Int.tmod_eq_emod_of_nonneg (Int.natCast_nonneg _)]
  rfl
theorem keeps (k : Nat) (hk : k < 256) (w : World) (hw : True) : CSpec Try.prog 6 [.int .u8 (k : Int)] [] w (Gives (.bool true)) := by
  refine spec_own0 Try.func6 rfl Try.ntmps6 rfl (l0 := [(0, .int .u8 (k : Int))]) rfl ?_
  repeat' first
    | (refine J.qv ?_; (with_reducible apply exq); focus (first
      | ((with_reducible apply Qv.conv); exact rfl; exact wr64 (z := (k : Int)) (by omega) (by omega) rfl)
      | ((with_reducible apply Qv.rem); exact rfl; exact rfl; decide; exact rem24 k hk)))
    | ((with_reducible apply J.givesR (alive22)); exact rfl; exact rfl; focus (exact RH.true_))
    | ((with_reducible apply J.newP rnew_); exact rfl; exact rfl; trivial; intro r9; (try dsimp only [List.cons_append, List.nil_append]); (refine J.nilRowC 47 43 (mgc []) rfl ?_); (apply J.reB (b := r9) (C' := [.slice none (List.length (BB 0)) 0, .bool true])); (focus ((repeat (first | with_reducible exact Upd.here | with_reducible apply Upd.there)))); (focus (rw [(show BB 0 = [] from rfl)]; rfl)); (apply J.reR (E := 47) (v := .slice none 0 0) (n := 0) (C := mgc []) (v' := .slice none (List.length (BB 0)) 0) (n' := List.length (BB 0)) (C' := mgc (BB 0))); (focus ((repeat (first | with_reducible exact Upd.here | with_reducible apply Upd.there)))); (focus (rw [(show BB 0 = [] from rfl)]; rfl)); (focus (rw [(show BB 0 = [] from rfl)]; rfl)); (focus (rw [(show BB 0 = [] from rfl)])))
    | refine J.one ?_
    | refine J.loudS ?_
    | (refine J.loudQ ?_; intro _ _)
    | (refine J.loudB ?_; intro _)
    | (with_reducible apply J.list)
    | ((with_reducible apply J.gsplit); exact rfl; exact rfl)
    | ((with_reducible first | apply J.cond | apply JC.cond); exact rfl)
    | (intro h; exfalso; (first | (simp at h; done) | (simp at h; omega) | omega))
    | (intro h; (try simp only [decide_eq_true_eq, decide_eq_false_iff_not, beq_iff_eq, beq_eq_false_iff_ne, Bool.not_eq_true', Bool.not_eq_false', bne_iff_ne, bne_eq_false_iff_eq, ne_eq, ge_iff_le, gt_iff_lt] at h))
    | (with_reducible apply J.gave')
    | ((with_reducible apply J.kept'); rotate_left; (repeat (first | (with_reducible exact Outs.nil) | ((with_reducible apply Outs.cons); (repeat (first | with_reducible exact Out.here | with_reducible apply Out.there))))))
  obtain ⟨n, hn⟩ : ∃ n, k % 24 = n := ⟨_, rfl⟩
  have hn24 : n < 24 := by omega
  rw [hn]
  apply J.loopI (σ := Nat × (Option Addr × Nat)) (I := fun x => x.1 ≤ n) (L := fun x => [(3, .pointer (some ⟨r9, 0, none⟩)), (4, .int .i64 ((n : Nat) : Int)), (5, .int .i64 (x.1 : Int))]) (HH := fun x => [blk r9 [.slice x.2.1 (BB x.1).length x.2.2, .bool true] 99, row (.slice x.2.1 (BB x.1).length x.2.2) 47 43 (BB x.1).length (mgc (BB x.1))]) (m := fun x => n - x.1) (s0 := (0, (none, 0)))
  · ((try dsimp only); (exact Nat.zero_le _))
  · ((try dsimp only); repeat (first | exact sub.nil _ | (refine sub.consE rfl ?_ ?_; (first | with_reducible rfl | (fail) | rfl))))
  · ((try dsimp only); (repeat (first | (with_reducible exact Outs.nil) | ((with_reducible apply Outs.cons); (repeat (first | with_reducible exact Out.here | with_reducible apply Out.there))))))
  rintro ⟨i, q⟩ hi
  try dsimp only at hi ⊢
  repeat' first
    | (refine J.qv ?_; (with_reducible apply exq); focus (first
      | ((with_reducible apply Qv.conv); exact rfl; exact wru64 (z := (i : Int)) (by omega) (by omega) rfl)
      | ((with_reducible apply Qv.add); exact rfl; exact rfl; exact (wru64 (z := (i : Int) + 1) (by omega) (by omega) rfl))
      | ((with_reducible apply Qv.buildS (T := 47)); exact rfl; exact (show _ = some (mmc i) from rfl).trans (congrArg some (mm_cells (by omega))))))
    | ((with_reducible apply J.doneP (mput_ (mm i) (mm_in (by omega)) (mm_E i))); exact rfl; exact rfl; exact .nil; trivial; intro q8 hq8; (try dsimp only [List.cons_append, List.nil_append]))
    | ((with_reducible apply J.hear (hear_ r9 (BB i) q q8 (mgB (mm i)) (BB_in i) (by rw [BB_len]; omega) hq8)); exact rfl; exact rfl; (repeat (first | (with_reducible exact Outs.nil) | ((with_reducible apply Outs.cons); (repeat (first | with_reducible exact Out.here | with_reducible apply Out.there))))); (intro hh x9; rotate_left; intro hh))
    | ((with_reducible apply J.keepsW (count_c _ _ _ _)); exact rfl; exact rfl; (repeat (first | (with_reducible exact Outs.nil) | ((with_reducible apply Outs.cons); (repeat (first | with_reducible exact Out.here | with_reducible apply Out.there))))))
    | refine J.one ?_
    | refine J.loudS ?_
    | (refine J.loudQ ?_; intro _ _)
    | (refine J.loudB ?_; intro _)
    | (with_reducible apply J.list)
    | ((with_reducible apply J.gsplit); exact rfl; exact rfl)
    | ((with_reducible first | apply J.cond | apply JC.cond); exact rfl)
    | (intro h; exfalso; (first | (simp at h; done) | (simp at h; omega) | (rw [BB_len] at h; simp at h; omega) | omega))
    | (intro h; (try simp only [decide_eq_true_eq, decide_eq_false_iff_not, beq_iff_eq, beq_eq_false_iff_ne, Bool.not_eq_true', Bool.not_eq_false', bne_iff_ne, bne_eq_false_iff_eq, ne_eq, ge_iff_le, gt_iff_lt] at h))
    | (with_reducible apply J.gave')
    | ((with_reducible apply J.kept'); rotate_left; (repeat (first | (with_reducible exact Outs.nil) | ((with_reducible apply Outs.cons); (repeat (first | with_reducible exact Out.here | with_reducible apply Out.there))))))
  all_goals first
    | (exfalso
       have h16 : ¬ i < 16 := fun h5 => by rw [hear_y h5] at hh; cases hh
       exact (by assumption : ¬ false = decide ((i : Int) < 16)) (decide_eq_false (by omega)).symm)
    | (exfalso
       have h16 : i < 16 := by
         rcases Nat.lt_or_ge i 16 with h5 | h5
         · exact h5
         · rw [hear_n (by omega) (by omega)] at hh; cases hh
       exact (by assumption : ¬ true = decide ((i : Int) < 16)) (decide_eq_true (by omega)).symm)
    | (have h16 : i < 16 := by
         rcases Nat.lt_or_ge i 16 with h5 | h5
         · exact h5
         · rw [hear_n (by omega) (by omega)] at hh; cases hh
       have hp : BB i ++ [(pRead (mgB (mm i))).1] = BB (i + 1) := by rw [read_mm (by omega)]; exact BB_s h16
       rw [hp]
       (apply J.againI (s := (i, q)) (s' := (i + 1, x9)); (focus (((try dsimp only) <;> omega))); (focus ((try dsimp only); (show i + 1 ≤ n; omega))); (focus (((try dsimp only); repeat (first | exact sub.nil _ | (refine sub.consE rfl ?_ ?_; (first | with_reducible rfl | ((focus (congr 1; omega))) | rfl)))))); ((try dsimp only); (repeat (first | (with_reducible exact Outs.nil) | ((with_reducible apply Outs.cons); (repeat (first | with_reducible exact Out.here | with_reducible apply Out.there))))))))
    | (have h16 : ¬ i < 16 := fun h5 => by rw [hear_y h5] at hh; cases hh
       rw [← BB_t h16]
       (apply J.againI (s := (i, q)) (s' := (i + 1, q)); (focus (((try dsimp only) <;> omega))); (focus ((try dsimp only); (show i + 1 ≤ n; omega))); (focus (((try dsimp only); repeat (first | exact sub.nil _ | (refine sub.consE rfl ?_ ?_; (first | with_reducible rfl | ((focus (congr 1; omega))) | rfl)))))); ((try dsimp only); (repeat (first | (with_reducible exact Outs.nil) | ((with_reducible apply Outs.cons); (repeat (first | with_reducible exact Out.here | with_reducible apply Out.there))))))))
    | (have e0 : i = n := by omega
       simp only [retv]
       rw [BB_len, e0]
       congr 1
       have : imin (n : Int) 16 = ((min n 16 : Nat) : Int) := by unfold imin; split <;> omega
       simp [this])
    | (trace_state; fail)
theorem RelayKeeps (x : Int) (W : World) (g0 : (Lit.int .u8 x).wf = true) : Calls Try.prog 6 #[.int .u8 x] W fun e w' => e = .returned (.bool true) ∧ Below W.heap.size W w' := by
  have h0 : 0 ≤ x ∧ x ≤ 255 := by
    simp [Lit.wf, IntKind.min, IntKind.max, IntKind.signed, IntKind.bits] at g0
    omega
  obtain ⟨k, rfl⟩ : ∃ k : Nat, x = (k : Int) := ⟨x.toNat, by omega⟩
  exact (keeps k (by omega) W trivial).below
end Go.Proofs.Ytfcaeifpclpnoaa.Rkl
