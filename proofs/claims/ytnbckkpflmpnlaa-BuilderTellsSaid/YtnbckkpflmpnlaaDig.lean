/-
  Digits of 16 bits. No conditions.
-/
import Derived.Test.YtnbckkpflmpnlaaLoop
namespace Go.Proofs.Ytnbckkpflmpnlaa.Eng
open Go Go.RowKit
set_option linter.unusedVariables false

section
variable {P : Program} {c : Cx} {l : TL} {H H' : List Asrt} {G : Act → World → Prop}
theorem sub.consE {l l' : TL} {d : Nat} {v v' : Value} (h : TL.get l d = some v') (e : v' = v) (hs : sub l l') : sub l ((d, v) :: l') := sub.cons (e ▸ h) hs
theorem J.reC {v : Value} {E sz n n' : Nat} {C C' : List Value} (hu : Upd (row v E sz n C) (row v E sz n' C') H H') (en : n = n') (e : C = C') (K : J c l H' G) : J c l H G := by
  subst e; subst en
  obtain ⟨R, h1, h2⟩ := hu.perm
  exact J.perm (h1.trans h2) K
theorem J.reB {b T : Nat} {C C' : List Value} (hu : Upd (blk b C T) (blk b C' T) H H') (e : C = C') (K : J c l H' G) : J c l H G := by
  subst e
  obtain ⟨R, h1, h2⟩ := hu.perm
  exact J.perm (h1.trans h2) K
/-- It gives a slice of a new row that is not empty, and hands back what it was handed. -/
def FreshAt (E sz n : Nat) (C : List Value) (H1 : List Asrt) : Ending → List Asrt → Prop := fun e H => ∃ g cap, e = .returned (.slice (some ⟨g, 0, none⟩) n cap) ∧ H = rowAt g cap E sz n C :: H1
variable {X : Act → World → Prop} {Q : Exit → Act → World → Prop} {ty : TypeId} {pos : String} {af : Array Edge} {d : Nat} {v : Value} {dst : Option Tmp}
theorem J.freshAtP {f : Nat} [i : Enters P f] {xs : List Operand} {ts : Array TypeId} {vs : List Value} {H1 H2 : List Asrt} {E sz n : Nat} {C : List Value} {p : Prop} (hS : p → ∀ w, CSpec P f vs H1 w (FreshAt E sz n C H1)) (hd : Nat.blt d c.n = true) (hx : evs l xs = some vs) (ho : Outs H1 H H2) (hp : p)
    (K : ∀ g cap, J c ((d, .slice (some ⟨g, 0, none⟩) n cap) :: l) (rowAt g cap E sz n C :: H) X) :
    J c l H (OW P Q ⟨some d, .call ⟨.value (.func f), xs.toArray, ts⟩, ty, pos, af, none⟩ X) :=
  J.call hd hx ho (fun w _ => hS hp w) (fun v H3 ⟨g, cap, h1, h2⟩ => by cases h1; subst h2; exact J.perm (ho.perm.symm.cons _) (K _ _)) (fun ch H3 ⟨u, _, h1, _⟩ => by cases h1) (fun H3 ⟨u, _, h1, _⟩ => by cases h1)
theorem J.freshAt' {E sz n : Nat} {C C' : List Value} {H1 R : List Asrt} {r : Value} (ho : Outs (row r E sz n C :: H1) H R) (hn : n ≠ 0) (e : C = C') : J c l H (fun _ w => ∃ H3, FreshAt E sz n C' H1 (.returned (retv [r])) H3 ∧ Sat c.w0 c.own H3 w) := by
  subst e
  refine J.perm (ho.perm) ?_
  refine J.openRow (v := r) .here hn fun g cap hr => J.mk fun a w s => ?_
  subst hr
  exact ⟨rowAt g cap E sz n C :: H1, ⟨g, cap, rfl, rfl⟩, Sat.drops (H' := R) (s.2.2.perm (List.perm_append_comm (l₁ := rowAt g cap E sz n C :: H1)))⟩
theorem J.shutRows {g cap E sz n : Nat} {C : List Value} {R : List Asrt} {r r' : Value} {H1 : List Asrt} (e : r = r') (ho : Outs H1 H R) : J c l H (fun _ w => ∃ H3, Keeps r' H1 (.returned r) H3 ∧ Sat c.w0 c.own H3 w) := J.kept' e ho
end

/-! ### Digits -/
def sh (n : Int) : Nat → Int
  | 0 => n
  | k + 1 => sh n k / 65536
def dgv (n : Int) : Nat → List Value
  | 0 => []
  | k + 1 => dgv n k ++ [.int .i64 (sh n k % 65536)]
theorem dgv_length (n : Int) : ∀ k, (dgv n k).length = k
  | 0 => rfl
  | k + 1 => by simp [dgv, dgv_length n k]
theorem dgv_get (n : Int) : ∀ {k i : Nat}, i < k → (dgv n k)[i]? = some (.int .i64 (sh n i % 65536))
  | 0, i, h => by omega
  | k + 1, i, h => by
    rcases Nat.lt_or_ge i k with h1 | h1
    · rw [dgv, List.getElem?_append_left (by rw [dgv_length]; exact h1)]
      exact dgv_get n h1
    · have : i = k := by omega
      subst this
      rw [dgv, List.getElem?_append_right (by rw [dgv_length]; exact Nat.le_refl _), dgv_length]
      simp
theorem sh_eq (n : Int) : ∀ k : Nat, sh n k = n / (65536 ^ k : Nat)
  | 0 => by simp [sh]
  | k + 1 => by
    rw [sh, sh_eq n k, Int.ediv_ediv_of_nonneg (by exact_mod_cast Nat.zero_le _)]
    congr 1
theorem sh_nonneg {n : Int} (h : 0 ≤ n) : ∀ k, 0 ≤ sh n k
  | 0 => h
  | k + 1 => by
    have := sh_nonneg h k
    simp only [sh]; omega
theorem sh16 {n : Int} (h : Wd n) : sh n 16 = 0 := by
  rw [sh_eq]
  unfold Wd at h
  simp only [Nat.reducePow]
  omega
theorem sh16_iff {n : Int} (h : 0 ≤ n) : sh n 16 = 0 ↔ n < 115792089237316195423570985008687907853269984665640564039457584007913129639936 := by
  rw [sh_eq]
  simp only [Nat.reducePow]
  omega
theorem dgv_ones (n : Int) (k : Nat) : (dgv n k).all (·.oneCell') = true := by
  induction k with
  | zero => rfl
  | succ k ih => rw [dgv, List.all_append, ih]; rfl

theorem wv_get {n : Int} {j : Nat} (h : j < 4) : (wv n)[j]? = some (.int .u64 (n / (18446744073709551616 ^ j : Nat) % 18446744073709551616)) := by
  have : j = 0 ∨ j = 1 ∨ j = 2 ∨ j = 3 := by omega
  rcases this with rfl | rfl | rfl | rfl <;> simp [wv]
/-- What stands below a digit. -/
def lo (n : Int) (k : Nat) : Int := n % (65536 ^ k : Nat)
theorem made_step {n : Int} {i : Nat} (h : i < 16) (h0 : 0 ≤ n) :
    Wo (sh n i % 65536 * (65536 ^ (i % 4) : Nat)) ∧ 0 ≤ lo n i / (18446744073709551616 ^ (i / 4) : Nat) % 18446744073709551616 + sh n i % 65536 * (65536 ^ (i % 4) : Nat) ∧
    lo n i / (18446744073709551616 ^ (i / 4) : Nat) % 18446744073709551616 + sh n i % 65536 * (65536 ^ (i % 4) : Nat) ≤ 18446744073709551615 ∧
    splice (wv (lo n i)) (i / 4) [.int .u64 (lo n i / (18446744073709551616 ^ (i / 4) : Nat) % 18446744073709551616 + sh n i % 65536 * (65536 ^ (i % 4) : Nat))] = wv (lo n (i + 1)) := by
  have : i = 0 ∨ i = 1 ∨ i = 2 ∨ i = 3 ∨ i = 4 ∨ i = 5 ∨ i = 6 ∨ i = 7 ∨ i = 8 ∨ i = 9 ∨ i = 10 ∨ i = 11 ∨ i = 12 ∨ i = 13 ∨ i = 14 ∨ i = 15 := by omega
  unfold Wo
  rw [sh_eq]
  rcases this with rfl | rfl | rfl | rfl | rfl | rfl | rfl | rfl | rfl | rfl | rfl | rfl | rfl | rfl | rfl | rfl
  all_goals
    simp only [lo, splice, wv, Nat.reducePow, Nat.reduceMod, Nat.reduceDiv, Nat.reduceAdd, List.take_succ_cons, List.take_zero, List.drop_succ_cons, List.drop_zero, List.nil_append, List.cons_append, List.length_cons, List.length_nil, List.append_nil, List.cons.injEq, Value.int.injEq, true_and, and_true, Int.ediv_one, Int.mul_one, Int.cast_ofNat_Int, List.drop_nil]
    refine ⟨⟨?_, ?_⟩, ?_, ?_, ?_⟩
    all_goals (first | omega | (refine ⟨?_, ?_⟩ <;> omega) | (refine ⟨?_, ?_, ?_⟩ <;> omega) | (refine ⟨?_, ?_, ?_, ?_⟩ <;> omega))
theorem lo_all {n : Int} (h : 0 ≤ n) (h1 : sh n 16 = 0) : lo n 16 = n := by
  have := (sh16_iff h).1 h1
  unfold lo
  simp only [Nat.reducePow]
  omega
theorem dig_mul {d : Int} {q : Nat} (h0 : 0 ≤ d) (h1 : d < 65536) (hq : q < 3) : IntKind.u64.wrap (d * (65536 ^ q : Nat) * 65536) = d * (65536 ^ (q + 1) : Nat) := by
  have : q = 0 ∨ q = 1 ∨ q = 2 := by omega
  rcases this with rfl | rfl | rfl
  all_goals
    simp only [Nat.reducePow, Nat.reduceAdd, Int.cast_ofNat_Int]
    exact wru64 (by omega) (by omega) (by omega)
section
variable {P : Program} {l : TL}
/-- Quotients and rests of what is not negative. -/
theorem Qv.quoN {m : Nat} {T T' : Nat} {x y : Operand} {k : IntKind} {a b : Nat} {f : Int} (hx : ev l x = some (.int k (a : Int))) (hy : ev l y = some (.int k f)) (hf : f = (b : Int)) (h0 : 0 < b) (hw : k.wrap ((a / b : Nat) : Int) = ((a / b : Nat) : Int)) : Qv P m l (.binOp .quo T x y T') (.int k ((a / b : Nat) : Int)) := by
  subst hf
  refine Qv.quo hx hy (by omega) ?_
  rw [Int.tdiv_eq_ediv_of_nonneg (by omega)]
  rw [← hw, Int.natCast_ediv]
theorem Qv.remN {m : Nat} {T T' : Nat} {x y : Operand} {k : IntKind} {a b : Nat} {f : Int} (hx : ev l x = some (.int k (a : Int))) (hy : ev l y = some (.int k f)) (hf : f = (b : Int)) (h0 : 0 < b) : Qv P m l (.binOp .rem T x y T') (.int k ((a % b : Nat) : Int)) := by
  subst hf
  refine Qv.rem hx hy (by omega) ?_
  rw [Int.tmod_eq_emod_of_nonneg (by omega), Int.natCast_emod]
end
theorem sh_mono {a b : Int} (h : a ≤ b) : ∀ k, sh a k ≤ sh b k
  | 0 => h
  | k + 1 => by
    have := sh_mono h k
    simp only [sh]; omega
theorem sh_lt {a b : Int} {k : Nat} (h : sh a k < sh b k) : a < b := by
  rcases Int.lt_or_le a b with h1 | h1
  · exact h1
  · have := sh_mono h1 k; omega
def wcmp (a b : Int) : Int := if a < b then -1 else if b < a then 1 else 0
/-- A row that is not empty is opened for a call. -/
theorem CSpec.rowed {P : Program} {f E sz n : Nat} {C : List Value} {w : World} {r v : Value} (hn : n ≠ 0) (h : ∀ g cap, CSpec P f [.slice (some ⟨g, 0, none⟩) n cap] [rowAt g cap E sz n C] w (Keeps r [rowAt g cap E sz n C])) :
    CSpec P f [v] [row v E sz n C] w (Keeps r [row v E sz n C]) := by
  rintro fp ⟨f1, g1, rfl, h1, rfl⟩ h2 h3
  rcases h1 with ⟨_, h4, _⟩ | ⟨g, cap, rfl, h4⟩
  · exact absurd h4 hn
  · refine (h g cap (f1 ++ []) ⟨f1, [], rfl, h4, rfl⟩ h2 h3).mono fun e w' hq => ?_
    obtain ⟨H3, ⟨he, rfl⟩, hS⟩ := hq
    exact ⟨_, ⟨he, rfl⟩, hS.conv fun h fp hh => rowAt.row hh⟩
theorem J.nilRowC {c l H G} (E sz : Nat) (C : List Value) (hC : C = []) (K : J c l (row (.slice none 0 0) E sz 0 C :: H) G) : J c l H G := by
  subst hC
  exact J.nilRow E sz K
end Go.Proofs.Ytnbckkpflmpnlaa.Eng
