/-
  The engine, part 9: floats that are small whole numbers, and complex numbers of such. No conditions.
-/
import Derived.Test.YtljbedladifgmaaGreatQSrc
import Derived.Laws.ComplexArith
import Derived.SizedLaws
import Derived.ChangeArms
namespace Go.Proofs.YtljbedladifgmaaGreat.Eng
open Go Go.RowKit
set_option linter.unusedVariables false
set_option linter.unusedSimpArgs false

section
variable {P : Program} {l : TL} {m : Nat}
end

/-! Slices that are only read, nil or not -/
def Srcs (A : Asrt) (ao : Option Addr) (sz n : Nat) (C : Nat → List Value) : Prop :=
  ∀ i, i < n → ao.isSome = true ∧ ∀ h fp, A.holds h fp → ∀ j u, (C i)[j]? = some u → cellH h ((ao.getD ⟨0, 0, none⟩).add (i * sz + j)) = some u
theorem Srcs.row {g cap E sz n : Nat} {C : List Value} (hl : C.length = n * sz) : Srcs (Eng.rowAt g cap E sz n C) (some ⟨g, 0, none⟩) sz n (fun i => (C.drop (i * sz)).take sz) := by
  intro i hi
  refine ⟨rfl, ?_⟩
  rintro h fp ⟨rfl, hl, hn, hm, cur, hg, hs, ht⟩ j u hu
  dsimp only at hu
  rw [List.getElem?_take] at hu
  split at hu
  · rename_i hj
    rw [List.getElem?_drop, ← ht, List.getElem?_take] at hu
    split at hu
    · rw [Option.getD_some, addr_add]
      simp only [cellH, hg]
      rw [Array.getElem?_toList] at hu
      rw [if_neg (by simp), Nat.zero_add]
      exact hu
    · cases hu
  · cases hu
theorem Srcs.blk {b E sz n : Nat} {C : List Value} (hl : C.length = n * sz) : Srcs (Eng.blk b C E) (some ⟨b, 0, none⟩) sz n (fun i => (C.drop (i * sz)).take sz) := by
  intro i hi
  refine ⟨rfl, ?_⟩
  rintro h fp ⟨rfl, hg⟩ j u hu
  dsimp only at hu
  rw [List.getElem?_take] at hu
  split at hu
  · rename_i hj
    rw [List.getElem?_drop] at hu
    rw [Option.getD_some, addr_add]
    simp only [cellH, hg]
    rw [List.getElem?_toArray, if_neg (by simp), Nat.zero_add]
    exact hu
  · cases hu
section
variable {P : Program} {c : Cx} {l : TL} {H : List Asrt} {m : Nat}
theorem Qv.indexSrcs {T E bytes n : Nat} {agg : Bool} {z : List Value} [i : Sl P T E bytes] [t : Ty P E agg n z] {x y : Operand} {ao : Option Addr} {len cap k : Nat} {q : IntKind} {j : Int} (hx : ev l x = some (.slice ao len cap)) (hy : ev l y = some (.int q j)) (hk : j.toNat = k) (hj : 0 ≤ j ∧ j < (len : Int)) (hs : ao.isSome = true) :
    Qv P m l (.indexAddr T x y) (.pointer (some ((ao.getD ⟨0, 0, none⟩).add (k * n)))) := by
  cases ao with
  | none => cases hs
  | some ad => exact Qv.indexSrc (bytes := bytes) hx hy hk hj
theorem Srcs.at {A : Asrt} {ao : Option Addr} {sz n : Nat} {C : Nat → List Value} (h : Srcs A ao sz n C) {i j k : Nat} {v : Value} (hi : i < n) (hk : k = i * sz + j) (hv : (C i)[j]? = some v) : ∀ h' fp, A.holds h' fp → cellH h' ((ao.getD ⟨0, 0, none⟩).add k) = some v := by
  subst hk
  exact fun h' fp hh => (h i hi).2 h' fp hh j v hv
end

theorem Sh.ReadsL.one {W : World} : ∀ {L : List Sh} {cs : List Value}, Sh.ReadsL W L cs → cs.all (·.oneCell') = true
  | [], cs, h => by simp only [Sh.ReadsL] at h; simp [h]
  | s :: L, cs, h => by
    simp only [Sh.ReadsL] at h
    obtain ⟨v, cs', rfl, h1, h2⟩ := h
    rw [List.all_cons, h2.one, Bool.and_true]
    cases s with
    | int k => simp only [Sh.Reads] at h1; obtain ⟨n, rfl, _⟩ := h1; rfl
    | bool => simp only [Sh.Reads] at h1; obtain ⟨n, rfl⟩ := h1; rfl
    | str => simp only [Sh.Reads] at h1; obtain ⟨n, rfl, _⟩ := h1; rfl
    | sl M => simp only [Sh.Reads] at h1; rcases h1 with rfl | ⟨_, _, _, rfl, _⟩ <;> rfl
/-! make([]T, n) -/
section
variable {P : Program} {c : Cx} {l : TL} {H : List Asrt} {Q : Exit → Act → World → Prop} {X : Act → World → Prop} {ty : TypeId} {pos : String} {af : Array Edge} {d : Nat}
theorem zeros_one {z0 : Value} {len : Nat} : (Array.range len).map (fun k => (#[z0] : Array Value)[k % (#[z0] : Array Value).size]!) = (tab (fun _ => z0) len).toArray := by
  apply Array.ext'
  simp only [Array.toList_map, Array.toList_range]
  refine tab_eq (by simp) fun k hk => ?_
  simp [hk, Nat.mod_one]
theorem J.makeSlice {T E bytes : Nat} {z0 : Value} [i : Sl P T E bytes] [t : Ty P E false 1 [z0]] {x y : Operand} {len : Nat} {k k' : Int} (hd : Nat.blt d c.n = true) (hx : ev l x = some (.int .i64 k)) (hy : ev l y = some (.int .i64 k')) (hk : k = (len : Int)) (hk' : k' = (len : Int)) (hlen : len ≤ 1000) (hb : bytes ≤ 1000)
    (K : ∀ b, J c ((d, .slice (some ⟨b, 0, none⟩) len len) :: l) (blk b (tab (fun _ => z0) len) E :: H) X) : J c l H (OW P Q ⟨some d, .makeSlice T x y, ty, pos, af, none⟩ X) :=
  J.opv fun a w s => by
    subst hk; subst hk'
    obtain ⟨zv, h1, h2⟩ := run_zeroV (P := P) (w := w) (T := E)
    refine ⟨_, w.alloc (.cells (tab (fun _ => z0) len).toArray E), ?_, K w.heap.size _ _ ⟨s.1.put hd, s.2.1, s.2.2.new _ _ fun h' hh => ⟨rfl, hh⟩⟩⟩
    have hbi := i.byt
    obtain ⟨inf, hinf⟩ : ∃ inf, P.info? E = some inf := by
      cases hu : P.info? E with
      | none => rw [hu] at hbi; cases hbi
      | some x => exact ⟨x, rfl⟩
    rw [hinf] at hbi
    simp only [Option.map_some, Option.some.injEq] at hbi
    have hti : (typeInfo E).run P w = .ok inf w := by simp [typeInfo, hinf]
    have hw : IntKind.i64.wrap ((len : Nat) : Int) = (len : Int) := wr64 (by omega) (by omega) rfl
    have hbig : ¬ ((bytes : Int) * (len : Int) > 2 ^ 48) := by
      have : bytes * len ≤ 1000 * 1000 := Nat.mul_le_mul hb hlen
      have h2 : ((bytes * len : Nat) : Int) ≤ ((1000 * 1000 : Nat) : Int) := Int.ofNat_le.2 this
      rw [Int.natCast_mul] at h2
      omega
    have ht : (decide (((len : Nat) : Int) < 0) || decide ((bytes : Int) * (len : Int) > 2 ^ 48)) = false := by
      rw [decide_eq_false (by omega), decide_eq_false hbig]; rfl
    have h48 : ¬ (bytes : Int) * (len : Int) > 281474976710656 := by simpa using hbig
    simp only [execOp, Instr.makeSlice, Sem.run_bind, run_und i.und, Result.andThen_ok, s.1.ev hx, s.1.ev hy, asInt, asIntOf, Sem.run_pure, hti, hbi, hw, ht, Bool.false_or]
    rw [if_neg (by simp only [Bool.or_eq_true, decide_eq_true_eq]; omega)]
    simp only [Sem.run_bind, run_askRoom, Result.andThen_ok, run_size (P := P) (w := w) (T := E), Int.toNat_natCast, Nat.mul_one]
    by_cases h0 : len = 0
    · subst h0
      simp [newRow, tab]
      congr 1
      simp
    · rw [if_neg h0]
      simp only [Sem.run_bind, Sem.run_pure, Result.andThen_ok, h1, h2]
      rw [zeros_one]
      simp [newRow]
end

/-! A block that is a whole row -/
end Go.Proofs.YtljbedladifgmaaGreat.Eng
