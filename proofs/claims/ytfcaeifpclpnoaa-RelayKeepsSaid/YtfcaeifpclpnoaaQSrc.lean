/-
  Slices that are only read, wherever they lie; bits. No conditions.
-/
import Derived.Test.YtfcaeifpclpnoaaQDig
namespace Go.Proofs.Ytfcaeifpclpnoaa.Eng
open Go Go.RowKit
set_option linter.unusedVariables false

def cellH (h : Hp) (a : Addr) : Option Value := match h a.block with
  | some (.cells c _ _) => if a.spot.isSome then none else c[a.off]?
  | _ => none
theorem cellH_hp (w : World) (a : Addr) : cellH (hp w) a = w.cell? a := rfl

/-- The slice v, of elements of sz cells each, C i, is in A's keeping. -/
def Src (A : Asrt) (v : Value) (sz n : Nat) (C : Nat → List Value) : Prop :=
  (v = .slice none 0 0 ∧ n = 0) ∨ ∃ a cap, v = .slice (some a) n cap ∧ ∀ h fp, A.holds h fp → ∀ i, i < n → ∀ j u, (C i)[j]? = some u → cellH h (a.add (i * sz + j)) = some u

theorem Src.frozen {W : World} {v : Value} {L : List Sh} (h : Sh.Reads W (.sl L) v) : ∃ n C, Src (frozen W) v L.length n C ∧ n ≤ maxLen ∧ ∀ i, i < n → Sh.ReadsL W L (C i) := by
  simp only [Sh.Reads] at h
  rcases h with rfl | ⟨a, len, cap, rfl, h1, h2, C, h3⟩
  · exact ⟨0, fun _ => [], .inl ⟨rfl, rfl⟩, Nat.zero_le _, fun i hi => absurd hi (Nat.not_lt_zero i)⟩
  · refine ⟨len, C, .inr ⟨a, cap, rfl, ?_⟩, by omega, fun i hi => (h3 i hi).1⟩
    rintro h fp ⟨rfl, hb⟩ i hi j u hu
    have h4 := (h3 i hi).2 j u hu
    have h5 := cell_lt h4
    unfold cellH
    rw [hb _ h5]
    exact h4

theorem Src.rowAt {g cap E n : Nat} {ms : Nat → Int} : Src (Eng.rowAt g cap E 4 n (wvs ms n)) (.slice (some ⟨g, 0, none⟩) n cap) 4 n (fun i => wv (ms i)) := by
  refine .inr ⟨⟨g, 0, none⟩, cap, rfl, ?_⟩
  rintro h fp ⟨rfl, hl, hn, hm, cur, hg, hs, ht⟩ i hi j u hu
  have h1 := wvs_get (ns := ms) (m := n) (k := i) (off := 4 * i) rfl hi
  dsimp only at hu
  rw [← h1, List.getElem?_take] at hu
  split at hu
  · rw [List.getElem?_drop, ← ht, List.getElem?_take] at hu
    split at hu
    · rw [addr_add]
      simp only [cellH, hg]
      rw [Array.getElem?_toList] at hu
      rw [if_neg (by simp), Nat.zero_add, show i * 4 + j = 4 * i + j by omega]
      exact hu
    · cases hu
  · cases hu
section
variable {P : Program} {c : Cx} {l : TL} {H : List Asrt} {m : Nat}
theorem Qr.srcN {T n : Nat} {z : List Value} [i : Ty P T true n z] {A : Asrt} {x : Operand} {a : Addr} {k : Nat} {C : Nat → List Value} {v : Value} (hx : ev l x = some (.pointer (some (a.add (k * n))))) (hm : In A H)
    (hs : ∀ h fp, A.holds h fp → ∀ j u, (C k)[j]? = some u → cellH h (a.add (k * n + j)) = some u) (hn : (C k).length = n) : Qr P c l H (.load T x) (.agg (C k).toArray) := fun a' w _ _ _ _ s => by
  obtain ⟨fp, h1, _, _⟩ := s.2.2.mem hm.mem
  have hl := run_loadN (P := P) (w := w) (T := T) (ad := a.add (k * n)) hn (fun j u hj => by
    rw [Addr.add_add]
    exact hs _ _ h1 j u hj)
  simp [execOp, s.1.ev hx, hl]
theorem Qr.src1 {T n : Nat} {z : List Value} [i : Ty P T false n z] {A : Asrt} {x : Operand} {a : Addr} {v : Value} (hx : ev l x = some (.pointer (some a))) (hm : In A H) (hs : ∀ h fp, A.holds h fp → cellH h a = some v) : Qr P c l H (.load T x) v := fun a' w _ _ _ _ s => by
  obtain ⟨fp, h1, _, _⟩ := s.2.2.mem hm.mem
  have hc : w.cell? a = some v := hs _ _ h1
  simp [execOp, s.1.ev hx, run_load1 (P := P) (T := T) hc]
theorem Qv.indexSrc {T E bytes n : Nat} {agg : Bool} {z : List Value} [i : Sl P T E bytes] [t : Ty P E agg n z] {x y : Operand} {ad : Addr} {len cap k : Nat} {q : IntKind} {j : Int} (hx : ev l x = some (.slice (some ad) len cap)) (hy : ev l y = some (.int q j)) (hk : j.toNat = k) (hj : 0 ≤ j ∧ j < (len : Int)) : Qv P m l (.indexAddr T x y) (.pointer (some (ad.add (k * n)))) :=
  Qv.indexSl (bytes := bytes) hx hy hj (by rw [hk])

/-- Sums of many. -/
def psum (ns : Nat → Int) : Nat → Int
  | 0 => 0
  | k + 1 => psum ns k + ns k
def wcap (x : Int) : Int := if x < 115792089237316195423570985008687907853269984665640564039457584007913129639936 then x else 0
theorem wcap_wd {x : Int} (h : 0 ≤ x) : Wd (wcap x) := by unfold wcap Wd; split <;> omega
theorem psum_mono {ns : Nat → Int} {n : Nat} (h : ∀ i, i < n → Wd (ns i)) {i j : Nat} (hij : i ≤ j) (hj : j ≤ n) : psum ns i ≤ psum ns j := by
  induction j with
  | zero =>
    have : i = 0 := by omega
    subst this; exact Int.le_refl _
  | succ j ih =>
    rcases Nat.lt_or_ge i (j + 1) with h1 | h1
    · have h2 := ih (by omega) (by omega)
      have h3 := (h j (by omega)).1
      simp only [psum]; omega
    · have : i = j + 1 := by omega
      subst this; exact Int.le_refl _
theorem psum_nonneg {ns : Nat → Int} {n : Nat} (h : ∀ i, i < n → Wd (ns i)) {j : Nat} (hj : j ≤ n) : 0 ≤ psum ns j := by
  have := psum_mono h (Nat.zero_le j) hj
  simpa [psum] using this
theorem Qr.srcW {T : Nat} {z : List Value} [i : Ty P T true 4 z] (A : Asrt) (k : Nat) (ns : Nat → Int) {x : Operand} {a : Addr} (hx : ev l x = some (.pointer (some (a.add (k * 4))))) (hm : In A H)
    (hs : ∀ h fp, A.holds h fp → ∀ j u, (wv (ns k))[j]? = some u → cellH h (a.add (k * 4 + j)) = some u) : Qr P c l H (.load T x) (.agg (wv (ns k)).toArray) :=
  Qr.srcN (C := fun i => wv (ns i)) (v := .bool true) hx hm hs rfl

/-! Bits -/
def orI (k : IntKind) (x y : Int) : Int := k.wrap ((BitVec.ofInt k.bits x ||| BitVec.ofInt k.bits y).toNat : Int)
theorem Qv.or {T T' : Nat} {x y : Operand} {k : IntKind} {e f : Int} (hx : ev l x = some (.int k e)) (hy : ev l y = some (.int k f)) : Qv P m l (.binOp .or T x y T') (.int k (orI k e f)) := fun a w _ _ _ _ s => by
  simp [execOp, s.ev hx, s.ev hy, eqGuard, binOp, Op.intBits, orI]
theorem orI_wo {x y : Int} (hx : Wo x) (hy : Wo y) : Wo (orI .u64 x y) := by
  unfold orI Wo
  have h := (BitVec.ofInt IntKind.u64.bits x ||| BitVec.ofInt IntKind.u64.bits y).isLt
  have : IntKind.u64.bits = 64 := rfl
  generalize (BitVec.ofInt IntKind.u64.bits x ||| BitVec.ofInt IntKind.u64.bits y).toNat = r at *
  rw [wru64 (e := (r : Int)) (by omega) (by rw [this] at h; omega) rfl]
  rw [this] at h; omega
theorem orI_zero {x y : Int} (hx : Wo x) (hy : Wo y) : orI .u64 x y = 0 ↔ x = 0 ∧ y = 0 := by
  unfold orI
  unfold Wo at hx hy
  have h := (BitVec.ofInt IntKind.u64.bits x ||| BitVec.ofInt IntKind.u64.bits y).isLt
  have e64 : IntKind.u64.bits = 64 := rfl
  have e : (BitVec.ofInt IntKind.u64.bits x ||| BitVec.ofInt IntKind.u64.bits y).toNat = x.toNat ||| y.toNat := by
    rw [BitVec.toNat_or, BitVec.toNat_ofInt, BitVec.toNat_ofInt, e64]
    congr 1 <;> omega
  rw [e] at h ⊢
  rw [wru64 (e := ((x.toNat ||| y.toNat : Nat) : Int)) (by omega) (by rw [e64] at h; omega) rfl]
  constructor
  · intro h0
    have h1 : x.toNat ||| y.toNat = 0 := by omega
    rw [Nat.or_eq_zero_iff] at h1
    omega
  · rintro ⟨rfl, rfl⟩; rfl
end

theorem small_or {a : Int} (h : Wd a) : (decide (a = a % 18446744073709551616) == (orI .u64 (orI .u64 (a / 18446744073709551616 % 18446744073709551616) (a / 340282366920938463463374607431768211456 % 18446744073709551616)) (a / 6277101735386680763835789423207666416102355444464034512896 % 18446744073709551616) == 0)) = true := by
  have h1 : Wo (a / 18446744073709551616 % 18446744073709551616) := by unfold Wo; omega
  have h2 : Wo (a / 340282366920938463463374607431768211456 % 18446744073709551616) := by unfold Wo; omega
  have h3 : Wo (a / 6277101735386680763835789423207666416102355444464034512896 % 18446744073709551616) := by unfold Wo; omega
  rw [beq_iff_eq, Bool.eq_iff_iff, decide_eq_true_eq, beq_iff_eq, orI_zero (orI_wo h1 h2) h3, orI_zero h1 h2]
  unfold Wd at h
  omega
theorem in_slice {H : Type} {enc : TypeId × Value → H} {P : Program} {W : World} {spare : Nat → Bool} {held : Bool} {r : Reach} {b0 : Nat} {T e : TypeId} {v : Value} {d : DataW H} {ps : List MemPlace} {k : Nat} {L : List Sh} (hu : P.underlying T = some (.slice e))
    (ho : Value.okWide P W r b0 T v) (hd : DataW.Trod enc P W 0 spare held T v d ps) (hf : flat P k T = some [.sl L]) : Sh.Reads W (.sl L) v := by
  obtain ⟨fuel, hd⟩ := hd
  have h := flat_reads k fuel T _ _ _ hd hf
  simp only [Sh.ReadsL] at h
  obtain ⟨u, cs', h1, h2, rfl⟩ := h
  cases v
  case agg cs =>
    exfalso
    simp [Value.okWide, hu, Cell.okWide, Cell.ok] at ho
  all_goals
    simp only [Value.cells, List.cons.injEq, and_true] at h1
    subst h1
    exact h2
end Go.Proofs.Ytfcaeifpclpnoaa.Eng
