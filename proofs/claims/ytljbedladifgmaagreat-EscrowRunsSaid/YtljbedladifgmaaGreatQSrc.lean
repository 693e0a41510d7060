/-
  Slices that are only read, wherever they lie; bits. No conditions.
-/
import Derived.Test.YtljbedladifgmaaGreatQDig
namespace Go.Proofs.YtljbedladifgmaaGreat.Eng
open Go Go.RowKit
set_option linter.unusedVariables false

def cellH (h : Hp) (a : Addr) : Option Value := match h a.block with
  | some (.cells c _ _) => if a.spot.isSome then none else c[a.off]?
  | _ => none
/-- The slice v, of elements of sz cells each, C i, is in A's keeping. -/
def Src (A : Asrt) (v : Value) (sz n : Nat) (C : Nat → List Value) : Prop :=
  (v = .slice none 0 0 ∧ n = 0) ∨ ∃ a cap, v = .slice (some a) n cap ∧ ∀ h fp, A.holds h fp → ∀ i, i < n → ∀ j u, (C i)[j]? = some u → cellH h (a.add (i * sz + j)) = some u

theorem Src.rowAt {g cap E n : Nat} {ms : Nat → Int} : Src (Eng.rowAt g cap E 4 n (wvs ms n)) (.slice (some ⟨g, 0, none⟩) n cap) 4 n (fun i => wv (ms i)) := by
  refine .inr ⟨⟨g, 0, none⟩, cap, rfl, ?_⟩
  rintro h fp ⟨rfl, hl, hn, hm, cur, hg, hs, ht⟩ i hi j u hu
  have h1 := wvs_get (ns := ms) (m := n) (k := i) (off := 4 * i) rfl hi
  dsimp only at hu
  rw [← h1, List.getElem?_take] at hu
  split at hu
  · rw [List.getElem?_drop, ← ht, List.getElem?_take] at hu
    split at hu
    · rw [addr_add]
      simp only [cellH, hg]
      rw [Array.getElem?_toList] at hu
      rw [if_neg (by simp), Nat.zero_add, show i * 4 + j = 4 * i + j by omega]
      exact hu
    · cases hu
  · cases hu
section
variable {P : Program} {c : Cx} {l : TL} {H : List Asrt} {m : Nat}
theorem Qv.indexSrc {T E bytes n : Nat} {agg : Bool} {z : List Value} [i : Sl P T E bytes] [t : Ty P E agg n z] {x y : Operand} {ad : Addr} {len cap k : Nat} {q : IntKind} {j : Int} (hx : ev l x = some (.slice (some ad) len cap)) (hy : ev l y = some (.int q j)) (hk : j.toNat = k) (hj : 0 ≤ j ∧ j < (len : Int)) : Qv P m l (.indexAddr T x y) (.pointer (some (ad.add (k * n)))) :=
  Qv.indexSl (bytes := bytes) hx hy hj (by rw [hk])

/-- Sums of many. -/
def psum (ns : Nat → Int) : Nat → Int
  | 0 => 0
  | k + 1 => psum ns k + ns k
def wcap (x : Int) : Int := if x < 115792089237316195423570985008687907853269984665640564039457584007913129639936 then x else 0
theorem wcap_wd {x : Int} (h : 0 ≤ x) : Wd (wcap x) := by unfold wcap Wd; split <;> omega
/-! Bits -/
def orI (k : IntKind) (x y : Int) : Int := k.wrap ((BitVec.ofInt k.bits x ||| BitVec.ofInt k.bits y).toNat : Int)
theorem Qv.or {T T' : Nat} {x y : Operand} {k : IntKind} {e f : Int} (hx : ev l x = some (.int k e)) (hy : ev l y = some (.int k f)) : Qv P m l (.binOp .or T x y T') (.int k (orI k e f)) := fun a w _ _ _ _ s => by
  simp [execOp, s.ev hx, s.ev hy, eqGuard, binOp, Op.intBits, orI]
end

theorem in_slice {H : Type} {enc : TypeId × Value → H} {P : Program} {W : World} {spare : Nat → Bool} {held : Bool} {r : Reach} {b0 : Nat} {T e : TypeId} {v : Value} {d : DataW H} {ps : List MemPlace} {k : Nat} {L : List Sh} (hu : P.underlying T = some (.slice e))
    (ho : Value.okWide P W r b0 T v) (hd : DataW.Trod enc P W 0 spare held T v d ps) (hf : flat P k T = some [.sl L]) : Sh.Reads W (.sl L) v := by
  obtain ⟨fuel, hd⟩ := hd
  have h := flat_reads k fuel T _ _ _ hd hf
  simp only [Sh.ReadsL] at h
  obtain ⟨u, cs', h1, h2, rfl⟩ := h
  cases v
  case agg cs =>
    exfalso
    simp [Value.okWide, hu, Cell.okWide, Cell.ok] at ho
  all_goals
    simp only [Value.cells, List.cons.injEq, and_true] at h1
    subst h1
    exact h2
end Go.Proofs.YtljbedladifgmaaGreat.Eng
