/-
  Transactions that come in, one behind the other. No conditions.
-/
import Derived.Test.YtljbedladifgmaaGreatQAlv
namespace Go.Proofs.YtljbedladifgmaaGreat.Txl
open Go Go.RowKit Eng
set_option linter.unusedVariables false
set_option maxRecDepth 100000
set_option linter.unusedSimpArgs false
open Wide Purse Tx Sha Ss Esc Vau Lck Do Prep Ful Doo Tri App Inn Low Gene Alv Deal Mss Ots Hash Bytes
set_option maxHeartbeats 1000000
def tx0 : Tx := ⟨0, 0, 0, 0, 0, 0, [], 0, 0, 0, 0, [], 0, 0, 0, []⟩
def txc (T : List Tx) : List Value := (T.map Tx.cells).flatten
theorem txc_length : ∀ T : List Tx, (txc T).length = T.length * 25
  | [] => rfl
  | k :: L => by
    have h := txc_length L
    unfold txc at h ⊢
    rw [List.map_cons, List.flatten_cons, List.length_append, h, show k.cells.length = 25 from rfl, List.length_cons]
    omega
theorem txc_at : ∀ {T : List Tx} {i : Nat}, i < T.length → ((txc T).drop (i * 25)).take 25 = (T.getD i tx0).cells
  | k :: L, 0, _ => by
    have e : txc (k :: L) = k.cells ++ txc L := rfl
    rw [e, Nat.zero_mul, List.drop_zero]
    exact List.take_left' rfl
  | k :: L, i + 1, h => by
    have h2 := txc_at (T := L) (i := i) (by simpa using h)
    have e : txc (k :: L) = k.cells ++ txc L := rfl
    rw [e, show (i + 1) * 25 = k.cells.length + i * 25 by show _ = 25 + _; omega, List.drop_append, List.drop_eq_nil_of_le (by omega), List.nil_append, show k.cells.length + i * 25 - k.cells.length = i * 25 by omega, h2]
    rfl
/-- Transactions that come in. -/
structure TX (t : Tx) : Prop where
  i : TIn t
  n : TNum t
def TsIn (T : List Tx) : Prop := ∀ t, t ∈ T → TX t
theorem i64_0 : I64 0 := i64_of (by decide) (by decide)
theorem tx0_in : TX tx0 := ⟨⟨⟨wd_n (by decide) (by decide), wd_n (by decide) (by decide), Nat.zero_le _, Nat.zero_le _, Nat.zero_le _⟩, wd_n (by decide) (by decide)⟩, ⟨i64_0, i64_0, i64_0, i64_0, i64_0, i64_0, i64_0, i64_0, i64_0, i64_0⟩⟩
theorem TsIn.get {T : List Tx} (h : TsIn T) (i : Nat) : TX (T.getD i tx0) := by
  rcases Nat.lt_or_ge i T.length with h1 | h1
  · rw [List.getD_eq_getElem?_getD, List.getElem?_eq_getElem h1]
    exact h _ (List.getElem_mem h1)
  · rw [List.getD_eq_getElem?_getD, List.getElem?_eq_none h1]
    exact tx0_in
theorem reads_txs {W : World} {v : Value} (h : Sh.Reads W (.sl txsh) v) : ∃ (ao : Option Addr) (T : List Tx) (cap : Nat), v = .slice ao T.length cap ∧ T.length ≤ cap ∧ cap ≤ maxLen ∧ TsIn T ∧ Rd W ao (txc T) := by
  simp only [Sh.Reads] at h
  rcases h with rfl | ⟨a, len, cap, rfl, h1, h2, C, hC⟩
  · exact ⟨none, [], 0, rfl, Nat.le_refl _, Nat.zero_le _, fun k hk => (by cases hk), Rd.nil _ _⟩
  · have key : ∀ i, ∃ k : Tx, TX k ∧ (i < len → C i = k.cells) := fun i => by
      rcases Nat.lt_or_ge i len with h3 | h3
      · obtain ⟨k, hk, hn, e⟩ := reads_tx (hC i h3).1
        exact ⟨k, ⟨hk, hn⟩, fun _ => e⟩
      · exact ⟨tx0, tx0_in, fun h4 => by omega⟩
    have hl : ((List.range len).map fun i => (key i).choose).length = len := by simp
    have hg : ∀ i, i < len → ((List.range len).map fun i => (key i).choose).getD i tx0 = (key i).choose := fun i hi => by
      rw [List.getD_eq_getElem?_getD, List.getElem?_map, List.getElem?_range hi]
      rfl
    refine ⟨some a, (List.range len).map fun i => (key i).choose, cap, by rw [hl], by rw [hl]; exact h1, h2, ?_, ?_⟩
    · intro k hk
      obtain ⟨i, _, rfl⟩ := List.mem_map.1 hk
      exact (key i).choose_spec.1
    · refine Rd.some_ fun j u hj => ?_
      have hjl : j < len * 25 := by
        rcases Nat.lt_or_ge j (len * 25) with h3 | h3
        · exact h3
        · rw [List.getElem?_eq_none (by rw [txc_length, hl]; exact h3)] at hj
          cases hj
      have hi : j / 25 < len := by omega
      have e2 : j = j / 25 * 25 + j % 25 := by omega
      have h6 : (((txc ((List.range len).map fun i => (key i).choose)).drop (j / 25 * 25)).take 25)[j % 25]? = some u := by
        rw [List.getElem?_take, if_pos (Nat.mod_lt _ (by decide)), List.getElem?_drop, ← e2]
        exact hj
      rw [txc_at (by rw [hl]; exact hi), hg _ hi, ← (key (j / 25)).choose_spec.2 hi] at h6
      have h5 := (hC (j / 25) hi).2 (j % 25) u h6
      rw [e2]
      exact h5
theorem txs_some {W : World} {ao : Option Addr} {T : List Tx} (h : Rd W ao (txc T)) (h0 : 0 < T.length) : ao.isSome = true := h.isSome fun e => by
  have h8 := txc_length T
  rw [e] at h8
  simp at h8
  omega
section
variable {P : Program} {c : Cx} {l : TL} {H : List Asrt} {Q : Exit → Act → World → Prop} {X : Act → World → Prop}
variable {ty : TypeId} {pos : String} {af : Array Edge} {d : Nat} {v : Value} {dst : Option Tmp} {mm : Nat}
end
end Go.Proofs.YtljbedladifgmaaGreat.Txl
