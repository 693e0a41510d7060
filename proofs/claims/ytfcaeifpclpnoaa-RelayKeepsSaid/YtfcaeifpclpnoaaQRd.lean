/-
  What is only read: facts of a world; octets; calls that own nothing. No conditions.
-/
import Derived.Test.YtfcaeifpclpnoaaQFl
import Derived.Scope
import Derived.Test.YtfcaeifpclpnoaaQStr
import Derived.Test.YtfcaeifpclpnoaaQSrc
import Derived.Laws.IdiomStrings
namespace Go.Proofs.Ytfcaeifpclpnoaa.Eng
open Go Go.RowKit
set_option linter.unusedVariables false

section
variable {P : Program} {c : Cx} {l : TL} {H : List Asrt} {Q : Exit → Act → World → Prop}
theorem J.label {k : Nat} (K : J c l H (Q .normal)) : J c l H ((Code.label k).wp P Q) := J.mk fun a w s => wp_label (K a w s)
theorem J.scope {x : Code} (K : J c l H (x.wp P (Exit.noGoto Q))) : J c l H ((Code.scope x).wp P Q) := J.mk fun a w s => wp_scope_straight (K a w s)
theorem J.sco_ (K : J c l H (Q .normal)) : J c l H (Exit.noGoto Q .normal) := K
theorem J.sco_ret (K : J c l H (Q .ret)) : J c l H (Exit.noGoto Q .ret) := K
theorem J.sco_exit {id : Nat} (K : J c l H (Q (.exit id))) : J c l H (Exit.noGoto Q (.exit id)) := K
theorem J.sco_panic {ch : List PanicEntry} (K : J c l H (Q (.panic ch))) : J c l H (Exit.noGoto Q (.panic ch)) := K
end

/-- A slice in a row's keeping. -/
theorem row_srcs {v : Value} {n E sz : Nat} {C : List Value} {h : Hp} {fp : List Nat} (hh : (Eng.row v E sz n C).holds h fp) : ∃ ao cap, v = .slice ao n cap ∧ Srcs (Eng.row v E sz n C) ao sz n (fun i => (C.drop (i * sz)).take sz) := by
  rcases hh with ⟨rfl, rfl, rfl, rfl⟩ | ⟨g, cap, rfl, hr⟩
  · exact ⟨none, 0, rfl, fun i hi => by omega⟩
  · refine ⟨some ⟨g, 0, none⟩, cap, rfl, fun i hi => ⟨rfl, ?_⟩⟩
    rintro h' fp' (⟨h1, _⟩ | ⟨g', cap', h1, h2⟩) j u hu
    · cases h1
    · cases h1
      exact (Srcs.row (E := E) (cap := cap) h2.2.1 i hi).2 h' fp' h2 j u hu
theorem J.rowV {c : Cx} {l : TL} {H : List Asrt} {G : Act → World → Prop} {v : Value} {n E sz : Nat} {C : List Value} (hm : In (Eng.row v E sz n C) H) (K : ∀ ao cap, v = .slice ao n cap → Srcs (Eng.row v E sz n C) ao sz n (fun i => (C.drop (i * sz)).take sz) → J c l H G) : J c l H G := J.mk fun a w s => by
  obtain ⟨fp, hh, _⟩ := s.2.2.mem hm.mem
  obtain ⟨ao, cap, e, hs⟩ := row_srcs hh
  exact K ao cap e hs a w s
theorem CSpec.rowV {P : Program} {f : Nat} {args : List Value} {w : World} {R : Ending → List Asrt → Prop} {v : Value} {n E sz : Nat} {C : List Value} {H1 : List Asrt} (K : ∀ ao cap, v = .slice ao n cap → Srcs (Eng.row v E sz n C) ao sz n (fun i => (C.drop (i * sz)).take sz) → CSpec P f args (Eng.row v E sz n C :: H1) w R) : CSpec P f args (Eng.row v E sz n C :: H1) w R := by
  rintro fp ⟨f1, g1, rfl, h1, h2⟩ h3 h4
  obtain ⟨ao, cap, e, hs⟩ := row_srcs h1
  exact K ao cap e hs (f1 ++ g1) ⟨f1, g1, rfl, h1, h2⟩ h3 h4
theorem Srcs.less {A : Asrt} {ao : Option Addr} {sz n m : Nat} {C : Nat → List Value} (h : Srcs A ao sz n C) (hm : m ≤ n) : Srcs A ao sz m C := fun i hi => h i (by omega)
theorem Srcs.eq {A : Asrt} {ao : Option Addr} {sz n : Nat} {C C' : Nat → List Value} (h : Srcs A ao sz n C) (hc : ∀ i, i < n → C i = C' i) : Srcs A ao sz n C' := fun i hi => by rw [← hc i hi]; exact h i hi
theorem J.nilRowN {c : Cx} {l : TL} {H : List Asrt} {G : Act → World → Prop} (E sz n : Nat) (C : List Value) (hn : n = 0) (hC : C = []) (K : J c l (Eng.row (.slice none 0 0) E sz n C :: H) G) : J c l H G := by
  subst hn; subst hC
  exact J.nilRow E sz K
/-- A beginning. -/
theorem Qv.sliceTo {P : Program} {m : Nat} {l : TL} {T E bytes sz : Nat} {agg : Bool} {z : List Value} [i : Sl P T E bytes] [q : Ty P E agg sz z] {x y : Operand} {ao : Option Addr} {n cap k : Nat} {j : Int} {ik : IntKind} (hx : ev l x = some (.slice ao n cap)) (hy : ev l y = some (.int ik j)) (hk : j = (k : Int)) (hc : k ≤ cap) :
    Qv P m l (.slice T x none (some y) none) (.slice ao k cap) := fun a w _ _ _ _ s => by
  subst hk
  have e0 : ∀ ad : Addr, ad.add 0 = ad := fun ad => by unfold Addr.add; split <;> simp_all
  have h1 : (0 : Int) ≤ (k : Int) ∧ (k : Int) ≤ (cap : Int) := ⟨by omega, by omega⟩
  cases ao <;> simp [execOp, s.ev hx, s.ev hy, Instr.sliceAt, Instr.slice, Instr.sliceBounds, Instr.sliceBound, asIntOf, run_und i.und, run_size (P := P) (w := w) (T := E), e0, h1, hc]
end Go.Proofs.Ytfcaeifpclpnoaa.Eng
namespace Go.Proofs.Ytfcaeifpclpnoaa.Eng
open Go Go.RowKit
set_option linter.unusedVariables false
set_option linter.unusedSimpArgs false

/-- A word. -/
abbrev u32 (a : BitVec 32) : Value := .int .u32 (a.toNat : Int)
/-- An octet. -/
abbrev bcell (b : UInt8) : Value := .int .u8 (b.toNat : Int)
def bcs (l : List UInt8) : List Value := l.map bcell
theorem bcs_length (l : List UInt8) : (bcs l).length = l.length := by simp [bcs]
theorem bcs_nil : bcs [] = [] := rfl
theorem bcs_append (l m : List UInt8) : bcs (l ++ m) = bcs l ++ bcs m := by simp [bcs]
theorem bcs_drop (l : List UInt8) (k : Nat) : (bcs l).drop k = bcs (l.drop k) := by simp [bcs]
theorem bcs_take (l : List UInt8) (k : Nat) : (bcs l).take k = bcs (l.take k) := by simp [bcs]
theorem bcs_get {l : List UInt8} {k : Nat} {b : UInt8} (h : l[k]? = some b) : (bcs l)[k]? = some (bcell b) := by simp [bcs, h]
theorem bcs_ones (l : List UInt8) : (bcs l).all (·.oneCell') = true := by simp [bcs, Value.oneCell']
theorem bcs_inj {l m : List UInt8} (h : bcs l = bcs m) : l = m := by
  induction l generalizing m with
  | nil =>
    cases m with
    | nil => rfl
    | cons b m => simp [bcs] at h
  | cons a l ih =>
    cases m with
    | nil => simp [bcs] at h
    | cons b m =>
      simp only [bcs, List.map_cons, List.cons.injEq, Value.int.injEq, true_and] at h
      have h1 : a.toNat = b.toNat := by omega
      rw [UInt8.toNat_inj.1 h1, ih h.2]

theorem wrap32 (n : Nat) (h : n < 4294967296) : IntKind.u32.wrap (n : Int) = (n : Int) := by
  simp [IntKind.wrap, IntKind.signed, IntKind.bits]
  omega
theorem of32 (a : BitVec 32) : BitVec.ofInt IntKind.u32.bits (a.toNat : Int) = a := by
  show BitVec.ofInt 32 (a.toNat : Int) = a
  rw [BitVec.ofInt_natCast, BitVec.ofNat_toNat, BitVec.setWidth_eq]
theorem wr32 {e : Int} {n : Nat} (h : e % 4294967296 = (n : Int)) : IntKind.u32.wrap e = (n : Int) := by
  simp [IntKind.wrap, IntKind.signed, IntKind.bits]
  exact h

section
variable {P : Program} {l : TL} {m : Nat}
theorem Qv.addB {T T' : Nat} {x y : Operand} {a b : BitVec 32} (hx : ev l x = some (u32 a)) (hy : ev l y = some (u32 b)) : Qv P m l (.binOp .add T x y T') (u32 (a + b)) :=
  Qv.add hx hy (wr32 (by rw [BitVec.toNat_add]; omega))
theorem Qv.xorB {T T' : Nat} {x y : Operand} {a b : BitVec 32} (hx : ev l x = some (u32 a)) (hy : ev l y = some (u32 b)) : Qv P m l (.binOp .xor T x y T') (u32 (a ^^^ b)) := fun ac w _ _ _ _ s => by
  have h := (a ^^^ b).isLt
  have e : (BitVec.ofInt IntKind.u32.bits (a.toNat : Int) ^^^ BitVec.ofInt IntKind.u32.bits (b.toNat : Int)).toNat = (a ^^^ b).toNat := by rw [of32, of32]; rfl
  simp only [execOp, s.ev hx, s.ev hy, eqGuard, binOp, Op.intBits, e, wrap32 _ h, Sem.run_bind, Sem.run_pure, Result.andThen_ok]
  try first | rfl | simp
theorem Qv.andB {T T' : Nat} {x y : Operand} {a b : BitVec 32} (hx : ev l x = some (u32 a)) (hy : ev l y = some (u32 b)) : Qv P m l (.binOp .and T x y T') (u32 (a &&& b)) := fun ac w _ _ _ _ s => by
  have h := (a &&& b).isLt
  have e : (BitVec.ofInt IntKind.u32.bits (a.toNat : Int) &&& BitVec.ofInt IntKind.u32.bits (b.toNat : Int)).toNat = (a &&& b).toNat := by rw [of32, of32]; rfl
  simp only [execOp, s.ev hx, s.ev hy, eqGuard, binOp, Op.intBits, e, wrap32 _ h, Sem.run_bind, Sem.run_pure, Result.andThen_ok]
  try first | rfl | simp
theorem Qv.orB {T T' : Nat} {x y : Operand} {a b : BitVec 32} (hx : ev l x = some (u32 a)) (hy : ev l y = some (u32 b)) : Qv P m l (.binOp .or T x y T') (u32 (a ||| b)) := fun ac w _ _ _ _ s => by
  have h := (a ||| b).isLt
  have e : (BitVec.ofInt IntKind.u32.bits (a.toNat : Int) ||| BitVec.ofInt IntKind.u32.bits (b.toNat : Int)).toNat = (a ||| b).toNat := by rw [of32, of32]; rfl
  simp only [execOp, s.ev hx, s.ev hy, eqGuard, binOp, Op.intBits, e, wrap32 _ h, Sem.run_bind, Sem.run_pure, Result.andThen_ok]
  try first | rfl | simp
theorem Qv.onesB {T T' : Nat} {x y : Operand} {b : BitVec 32} (hx : ev l x = some (.int .u32 4294967295)) (hy : ev l y = some (u32 b)) : Qv P m l (.binOp .xor T x y T') (u32 (~~~b)) := fun ac w _ _ _ _ s => by
  have h := (~~~b).isLt
  have e : (BitVec.ofInt IntKind.u32.bits 4294967295 ^^^ BitVec.ofInt IntKind.u32.bits (b.toNat : Int)).toNat = (~~~b).toNat := by
    rw [of32]
    have : BitVec.ofInt IntKind.u32.bits 4294967295 = BitVec.allOnes 32 := by rfl
    rw [this]
    exact congrArg BitVec.toNat (BitVec.allOnes_xor (x := b))
  simp only [execOp, s.ev hx, s.ev hy, eqGuard, binOp, Op.intBits, e, wrap32 _ h, Sem.run_bind, Sem.run_pure, Result.andThen_ok]
  try first | rfl | simp
theorem Qv.notB {T : Nat} {x : Operand} {b : BitVec 32} (hx : ev l x = some (u32 b)) : Qv P m l (.unOp .xor T x) (u32 (~~~b)) := fun ac w _ _ _ _ s => by
  have h := (~~~b).isLt
  have e : (BitVec.ofInt IntKind.u32.bits 4294967295 ^^^ BitVec.ofInt IntKind.u32.bits (b.toNat : Int)).toNat = (~~~b).toNat := by
    rw [of32]
    have : BitVec.ofInt IntKind.u32.bits 4294967295 = BitVec.allOnes 32 := by rfl
    rw [this]
    exact congrArg BitVec.toNat (BitVec.allOnes_xor (x := b))
  have em : (if IntKind.u32.signed then (-1 : Int) else IntKind.u32.max) = 4294967295 := by rfl
  simp only [execOp, s.ev hx, Op.unary, Op.intBits, em, e, wrap32 _ h, Sem.run_bind, Sem.run_pure, Result.andThen_ok]
  try first | rfl | simp
theorem Qv.shlB {T T' : Nat} {x y : Operand} {k : IntKind} {a : BitVec 32} {n : Nat} {f : Int} (hx : ev l x = some (u32 a)) (hy : ev l y = some (.int k f)) (hf : f = (n : Int)) (hn : n ≤ 32) : Qv P m l (.binOp .shl T x y T') (u32 (a <<< n)) := by
  subst hf
  refine Qv.shl hx hy (by omega) (wr32 ?_)
  have e : Min.min (n : Int).toNat IntKind.u32.bits = n := by
    show Min.min (n : Int).toNat 32 = n
    omega
  rw [e, BitVec.toNat_shiftLeft, Nat.shiftLeft_eq]
  have : ((a.toNat : Int) * 2 ^ n) = ((a.toNat * 2 ^ n : Nat) : Int) := by push_cast; rfl
  rw [this]
  generalize a.toNat * 2 ^ n = q
  omega
theorem Qv.shrB {T T' : Nat} {x y : Operand} {k : IntKind} {a : BitVec 32} {n : Nat} {f : Int} (hx : ev l x = some (u32 a)) (hy : ev l y = some (.int k f)) (hf : f = (n : Int)) (hn : n ≤ 32) : Qv P m l (.binOp .shr T x y T') (u32 (a >>> n)) := by
  subst hf
  refine Qv.shr hx hy (by omega) ?_
  have e : Min.min (n : Int).toNat IntKind.u32.bits = n := by
    show Min.min (n : Int).toNat 32 = n
    omega
  rw [e, BitVec.toNat_ushiftRight, Nat.shiftRight_eq_div_pow]
  have : ((2 : Int) ^ n) = ((2 ^ n : Nat) : Int) := by push_cast; rfl
  rw [this, Int.fdiv_eq_ediv_of_nonneg _ (Int.natCast_nonneg _)]
  rfl
/-- Bits of two numbers at once. -/
def andI (k : IntKind) (x y : Int) : Int := k.wrap ((BitVec.ofInt k.bits x &&& BitVec.ofInt k.bits y).toNat : Int)
theorem Qv.and_ {T T' : Nat} {x y : Operand} {k : IntKind} {e f : Int} (hx : ev l x = some (.int k e)) (hy : ev l y = some (.int k f)) : Qv P m l (.binOp .and T x y T') (.int k (andI k e f)) := fun a w _ _ _ _ s => by
  simp [execOp, s.ev hx, s.ev hy, eqGuard, binOp, Op.intBits, andI]
theorem Qv.andE {T T' : Nat} {x y : Operand} {k : IntKind} {e f z : Int} (hx : ev l x = some (.int k e)) (hy : ev l y = some (.int k f)) (hz : andI k e f = z) : Qv P m l (.binOp .and T x y T') (.int k z) := hz ▸ Qv.and_ hx hy
theorem and_low {e : Int} {k n : Nat} (h0 : 0 ≤ e) (h1 : e < 18446744073709551616) (hk : k ≤ 63) (hn : (n : Int) = e % (2 ^ k : Nat)) : andI .u64 e ((2 ^ k - 1 : Nat) : Int) = (n : Int) := by
  obtain ⟨m, rfl⟩ := Int.eq_ofNat_of_zero_le h0
  have hp : 2 ^ k ≤ 9223372036854775808 := Nat.le_trans (Nat.pow_le_pow_right (n := 2) (by omega) hk) (by omega)
  have hp0 := Nat.two_pow_pos k
  have e1 : (BitVec.ofInt IntKind.u64.bits (m : Int) &&& BitVec.ofInt IntKind.u64.bits ((2 ^ k - 1 : Nat) : Int)).toNat = m % 2 ^ k := by
    rw [BitVec.toNat_and, BitVec.ofInt_natCast, BitVec.ofInt_natCast, BitVec.toNat_ofNat, BitVec.toNat_ofNat]
    have b : IntKind.u64.bits = 64 := rfl
    rw [b, Nat.mod_eq_of_lt (by omega), Nat.mod_eq_of_lt (a := 2 ^ k - 1) (by omega), Nat.and_two_pow_sub_one_eq_mod]
  unfold andI
  rw [e1]
  have h2 := Nat.mod_lt m hp0
  have h3 : ((m % 2 ^ k : Nat) : Int) = (n : Int) := by rw [hn, Int.natCast_emod]
  rw [h3]
  exact wru64 (by omega) (by omega) rfl
theorem or_low {a b k : Nat} (hb : b < 2 ^ k) (h : a * 2 ^ k + b < 9223372036854775808) : orI .i64 ((a * 2 ^ k : Nat) : Int) (b : Int) = ((a * 2 ^ k + b : Nat) : Int) := by
  have e1 : (BitVec.ofInt IntKind.i64.bits ((a * 2 ^ k : Nat) : Int) ||| BitVec.ofInt IntKind.i64.bits (b : Int)).toNat = a * 2 ^ k + b := by
    rw [BitVec.toNat_or, BitVec.ofInt_natCast, BitVec.ofInt_natCast, BitVec.toNat_ofNat, BitVec.toNat_ofNat]
    have bb : IntKind.i64.bits = 64 := rfl
    rw [bb, Nat.mod_eq_of_lt (by omega), Nat.mod_eq_of_lt (by omega), Nat.mul_comm a, ← Nat.two_pow_add_eq_or_of_lt hb]
  unfold orI
  rw [e1]
  exact wr64 (by omega) (by omega) rfl
/-- A number's lowest 32 bits. -/
theorem Qv.toB {S T : Nat} {j : IntKind} [i : Ik P T .u32] [i2 : Ik P S j] {x : Operand} {q : IntKind} {e : Int} (hx : ev l x = some (.int q e)) : Qv P m l (.convert S T x) (u32 (BitVec.ofInt 32 e)) :=
  Qv.conv hx (wr32 (by rw [BitVec.toNat_ofInt]; omega))
theorem and_mask (n k : Nat) : n &&& (2 ^ k - 1) = n % 2 ^ k := Nat.and_two_pow_sub_one_eq_mod n k
end
end Go.Proofs.Ytfcaeifpclpnoaa.Eng
namespace Go.Proofs.Ytfcaeifpclpnoaa.Eng
open Go Go.RowKit
set_option linter.unusedVariables false
set_option linter.unusedSimpArgs false
set_option linter.unusedSectionVars false

/-! ### Facts of a world -/
def CellsAt (w : World) (a : Addr) (C : List Value) : Prop := ∀ j u, C[j]? = some u → w.cell? (a.add j) = some u
theorem CellsAt.sub {w : World} {a : Addr} {C : List Value} (h : CellsAt w a C) (i k : Nat) : CellsAt w (a.add i) ((C.drop i).take k) := fun j u hj => by
  rw [List.getElem?_take] at hj
  split at hj
  · rw [List.getElem?_drop] at hj
    rw [Addr.add_add]
    exact h _ _ hj
  · cases hj
theorem CellsAt.nil (w : World) (a : Addr) : CellsAt w a [] := fun j u h => by simp at h
theorem CellsAt.kept {w w' : World} {a : Addr} {C : List Value} (h : CellsAt w a C) (hf : Fr w [] w') : CellsAt w' a C := fun j u hj => by
  have h1 := h j u hj
  rw [cell_same (hf.same _ (cell_lt h1) (by simp))]
  exact h1
/-- A slice with this address holds the cells C. -/
def Rd (w : World) (ao : Option Addr) (C : List Value) : Prop := (ao = none → C = []) ∧ ∀ a, ao = some a → CellsAt w a C
theorem Rd.some_ {w : World} {a : Addr} {C : List Value} (h : CellsAt w a C) : Rd w (some a) C := ⟨fun h => (by cases h), fun b hb => by cases hb; exact h⟩
theorem Rd.nil (w : World) (ao : Option Addr) : Rd w ao [] := ⟨fun _ => rfl, fun a _ => CellsAt.nil w a⟩
theorem Rd.kept {w w' : World} {ao : Option Addr} {C : List Value} (h : Rd w ao C) (hf : Fr w [] w') : Rd w' ao C := ⟨h.1, fun a ha => (h.2 a ha).kept hf⟩
theorem Rd.isSome {w : World} {ao : Option Addr} {C : List Value} (h : Rd w ao C) (hC : C ≠ []) : ao.isSome = true := by
  cases ao with
  | none => exact absurd (h.1 rfl) hC
  | some a => rfl
theorem Rd.at {w : World} {ao : Option Addr} {C : List Value} (h : Rd w ao C) {j : Nat} {u : Value} (hj : C[j]? = some u) : w.cell? ((ao.getD ⟨0, 0, none⟩).add j) = some u := by
  cases ao with
  | none => rw [h.1 rfl] at hj; simp at hj
  | some a => exact h.2 a rfl j u hj
/-- The address of a slice of a slice. -/
def offA (ao : Option Addr) (k m : Nat) : Option Addr := if m = 0 then ao else ao.map (·.add k)
theorem Rd.off {w : World} {ao : Option Addr} {C : List Value} (h : Rd w ao C) (i k m : Nat) (hm : k ≤ m) : Rd w (offA ao i m) ((C.drop i).take k) := by
  unfold offA
  split
  · rename_i h0
    have : k = 0 := by omega
    subst this
    rw [List.take_zero]
    exact Rd.nil _ _
  · cases ao with
    | none =>
      have := h.1 rfl
      subst this
      simp only [List.drop_nil, List.take_nil]
      exact Rd.nil _ _
    | some a => exact Rd.some_ ((h.2 a rfl).sub i k)
theorem Rd.take {w : World} {ao : Option Addr} {C : List Value} (h : Rd w ao C) (k : Nat) : Rd w ao (C.take k) := by
  refine ⟨fun e => by rw [h.1 e, List.take_nil], fun a ha j u hj => h.2 a ha j u ?_⟩
  rw [List.getElem?_take] at hj
  split at hj
  · exact hj
  · cases hj

/-- The slice v is of the octets l. -/
def RdB (w : World) (v : Value) (l : List UInt8) : Prop := ∃ ao cap, v = .slice ao l.length cap ∧ l.length ≤ cap ∧ Rd w ao (bcs l)
theorem RdB.kept {w w' : World} {v : Value} {l : List UInt8} (h : RdB w v l) (hf : Fr w [] w') : RdB w' v l := by
  obtain ⟨ao, cap, h1, h2, h3⟩ := h
  exact ⟨ao, cap, h1, h2, h3.kept hf⟩
/-- The slices V are of the octets L. -/
def RdL (w : World) : List Value → List (List UInt8) → Prop
  | [], [] => True
  | v :: V, l :: L => RdB w v l ∧ RdL w V L
  | _, _ => False
theorem RdL.kept {w w' : World} (hf : Fr w [] w') : ∀ {V : List Value} {L : List (List UInt8)}, RdL w V L → RdL w' V L
  | [], [], _ => trivial
  | _ :: _, _ :: _, h => ⟨h.1.kept hf, RdL.kept hf h.2⟩
  | [], _ :: _, h => h.elim
  | _ :: _, [], h => h.elim
theorem RdL.length {w : World} : ∀ {V : List Value} {L : List (List UInt8)}, RdL w V L → V.length = L.length
  | [], [], _ => rfl
  | _ :: V, _ :: L, h => by simp [RdL.length h.2]
  | [], _ :: _, h => h.elim
  | _ :: _, [], h => h.elim
theorem RdL.get {w : World} : ∀ {V : List Value} {L : List (List UInt8)} {i : Nat} {l : List UInt8}, RdL w V L → L[i]? = some l → ∃ v, V[i]? = some v ∧ RdB w v l
  | v :: V, m :: L, 0, l, h, hi => by
    simp only [List.getElem?_cons_zero, Option.some.injEq] at hi
    subst hi
    exact ⟨v, rfl, h.1⟩
  | v :: V, m :: L, i + 1, l, h, hi => by
    simp only [List.getElem?_cons_succ] at hi ⊢
    exact RdL.get h.2 hi
  | [], [], _, _, _, hi => by simp at hi
  | [], _ :: _, _, _, h, _ => h.elim
  | _ :: _, [], _, _, h, _ => h.elim
theorem RdL.append {w : World} : ∀ {V V' : List Value} {L L' : List (List UInt8)}, RdL w V L → RdL w V' L' → RdL w (V ++ V') (L ++ L')
  | [], _, [], _, _, h => h
  | _ :: _, _, _ :: _, _, h1, h2 => ⟨h1.1, RdL.append h1.2 h2⟩
  | [], _, _ :: _, _, h, _ => h.elim
  | _ :: _, _, [], _, h, _ => h.elim
theorem RdL.drop {w : World} : ∀ {V : List Value} {L : List (List UInt8)} (k : Nat), RdL w V L → RdL w (V.drop k) (L.drop k)
  | _, _, 0, h => h
  | [], [], _ + 1, _ => trivial
  | _ :: _, _ :: _, k + 1, h => RdL.drop k h.2
  | [], _ :: _, _, h => h.elim
  | _ :: _, [], _, h => h.elim
theorem RdL.take {w : World} : ∀ {V : List Value} {L : List (List UInt8)} (k : Nat), RdL w V L → RdL w (V.take k) (L.take k)
  | V, L, 0, h => by simp only [List.take_zero]; exact trivial
  | [], [], _ + 1, _ => trivial
  | _ :: _, _ :: _, k + 1, h => ⟨h.1, RdL.take k h.2⟩
  | [], _ :: _, _, h => h.elim
  | _ :: _, [], _, h => h.elim
/-- A slice of slices of octets. -/
def RdS (w : World) (ao : Option Addr) (L : List (List UInt8)) : Prop := ∃ V, Rd w ao V ∧ RdL w V L
theorem RdS.kept {w w' : World} {ao : Option Addr} {L : List (List UInt8)} (h : RdS w ao L) (hf : Fr w [] w') : RdS w' ao L := by
  obtain ⟨V, h1, h2⟩ := h
  exact ⟨V, h1.kept hf, h2.kept hf⟩

/-! ### Assertions -/
/-- The slice v is of the octets l, in a block that nobody else has. -/
def bAt (v : Value) (l : List UInt8) : Asrt where
  holds h fp := (v = .slice none 0 0 ∧ l = [] ∧ fp = []) ∨ ∃ g o cap cur T fr, v = .slice (some ⟨g, o, none⟩) l.length cap ∧ l.length ≤ cap ∧ fp = [g] ∧ h g = some (.cells cur T fr) ∧ ∀ j u, (bcs l)[j]? = some u → cur[o + j]? = some u
  loc h h' fp he := by
    rintro (h1 | ⟨g, o, cap, cur, T, fr, h1, h2, rfl, h4, h5⟩)
    · exact .inl h1
    · exact .inr ⟨g, o, cap, cur, T, fr, h1, h2, rfl, (he g (by simp)).trans h4, h5⟩
theorem row_bAt {v : Value} {T n : Nat} {l : List UInt8} {h : Hp} {fp : List Nat} (hn : n = l.length) (hh : (Eng.row v T 1 n (bcs l)).holds h fp) : (bAt v l).holds h fp := by
  subst hn
  rcases hh with ⟨h1, h2, h3, h4⟩ | ⟨g, cap, rfl, rfl, hl, hc, hm, cur, hg, hs, ht⟩
  · exact .inl ⟨h1, bcs_inj h3, h4⟩
  · refine .inr ⟨g, 0, cap, cur, T, (0, 0), rfl, hc, rfl, hg, fun j u hj => ?_⟩
    rw [← ht, List.getElem?_take] at hj
    split at hj
    · rw [Nat.zero_add]
      simpa using hj
    · cases hj
/-- All of them, each in its own blocks. -/
def bsA : List Value → List (List UInt8) → List Asrt
  | v :: V, l :: L => bAt v l :: bsA V L
  | _, _ => []
def sepA (H : List Asrt) : Asrt where
  holds h fp := Holds h H fp
  loc h h' fp he hh := hh.loc he

section
variable {w0 w : World} {own : List Nat} {H : List Asrt}
theorem Sat.rd_row {ao : Option Addr} {n m cap E sz : Nat} {C : List Value} (s : Sat w0 own H w) (hm : In (Eng.row (.slice ao n cap) E sz m C) H) : Rd w ao C ∧ n ≤ cap ∧ m = n ∧ C.length = n * sz ∧ cap ≤ maxLen := by
  obtain ⟨fp, hh, _, _⟩ := s.mem hm.mem
  rcases hh with ⟨h1, rfl, rfl, rfl⟩ | ⟨g, cap', h1, h2⟩
  · cases h1
    exact ⟨Rd.nil _ _, Nat.le_refl _, rfl, by simp, Nat.zero_le _⟩
  · cases h1
    obtain ⟨rfl, hl, hc, hx, cur, hg, hs, ht⟩ := h2
    refine ⟨Rd.some_ fun j u hj => ?_, hc, rfl, hl, hx⟩
    rw [addr_add, Nat.zero_add]
    have hb : w.heap[g]? = some (.cells cur E (0, 0)) := hg
    rw [← ht, List.getElem?_take] at hj
    split at hj
    · simp only [World.cell?, hb]
      simpa using hj
    · cases hj
theorem Sat.rd_rowAt {g n cap E sz : Nat} {C : List Value} (s : Sat w0 own H w) (hm : In (Eng.rowAt g cap E sz n C) H) : Rd w (some ⟨g, 0, none⟩) C ∧ n ≤ cap := by
  obtain ⟨fp, ⟨rfl, hl, hc, _, cur, hg, hs, ht⟩, _, _⟩ := s.mem hm.mem
  refine ⟨Rd.some_ fun j u hj => ?_, hc⟩
  rw [addr_add, Nat.zero_add]
  have hb : w.heap[g]? = some (.cells cur E (0, 0)) := hg
  rw [← ht, List.getElem?_take] at hj
  split at hj
  · simp only [World.cell?, hb]
    simpa using hj
  · cases hj
theorem Sat.rd_bAt {v : Value} {l : List UInt8} (s : Sat w0 own H w) (hm : In (bAt v l) H) : RdB w v l := by
  obtain ⟨fp, hh, _, _⟩ := s.mem hm.mem
  rcases hh with ⟨rfl, rfl, _⟩ | ⟨g, o, cap, cur, T, fr, rfl, hc, rfl, hg, hu⟩
  · exact ⟨none, 0, rfl, Nat.le_refl _, Rd.nil _ _⟩
  · refine ⟨_, cap, rfl, hc, Rd.some_ fun j u hj => ?_⟩
    rw [addr_add]
    have hb : w.heap[g]? = some (.cells cur T fr) := hg
    simp only [World.cell?, hb]
    simpa using hu j u hj
theorem Sat.rd_blk {b E off : Nat} {C : List Value} (s : Sat w0 own H w) (hm : In (Eng.blk b C E) H) (k : Nat) : Rd w (some ⟨b, off, none⟩) ((C.drop off).take k) := by
  refine Rd.some_ fun j u hj => ?_
  rw [addr_add]
  refine s.cell hm.mem ?_
  rw [List.getElem?_take] at hj
  split at hj
  · rwa [List.getElem?_drop] at hj
  · cases hj
theorem Sat.sep {H' : List Asrt} (s : Sat w0 own H w) (hm : In (sepA H') H) : ∀ A, A ∈ H' → ∃ fp, A.holds (hp w) fp := by
  obtain ⟨fp, hh, _, _⟩ := s.mem hm.mem
  intro A hA
  obtain ⟨s', t, rfl⟩ := List.append_of_mem hA
  have p : (s' ++ A :: t).Perm (A :: (s' ++ t)) := List.perm_middle
  obtain ⟨fp', _, f, g, _, ha, _⟩ := Holds.perm p hh
  exact ⟨f, ha⟩
theorem rd_of_bAt {v : Value} {l : List UInt8} {fp : List Nat} (hh : (bAt v l).holds (hp w) fp) : RdB w v l := by
  rcases hh with ⟨rfl, rfl, _⟩ | ⟨g, o, cap, cur, T, fr, rfl, hc, rfl, hg, hu⟩
  · exact ⟨none, 0, rfl, Nat.le_refl _, Rd.nil _ _⟩
  · refine ⟨_, cap, rfl, hc, Rd.some_ fun j u hj => ?_⟩
    rw [addr_add]
    have hb : w.heap[g]? = some (.cells cur T fr) := hg
    simp only [World.cell?, hb]
    simpa using hu j u hj
theorem rdl_of : ∀ {V : List Value} {L : List (List UInt8)}, V.length = L.length → (∀ A, A ∈ bsA V L → ∃ fp, A.holds (hp w) fp) → RdL w V L
  | [], [], _, _ => trivial
  | v :: V, l :: L, hl, h => by
    obtain ⟨fp, h1⟩ := h (bAt v l) (List.mem_cons_self ..)
    exact ⟨rd_of_bAt h1, rdl_of (by simpa using hl) fun A hA => h A (List.mem_cons_of_mem _ hA)⟩
  | [], _ :: _, hl, _ => by simp at hl
  | _ :: _, [], hl, _ => by simp at hl
theorem Sat.rd_bs {V : List Value} {L : List (List UInt8)} (s : Sat w0 own H w) (hm : In (sepA (bsA V L)) H) (hl : V.length = L.length) : RdL w V L := rdl_of hl (s.sep hm)
theorem Sat.old {ao : Option Addr} {C : List Value} (s : Sat w0 [] H w) (h : Rd w0 ao C) : Rd w ao C := h.kept s.fr
end

/-! ### What is told of slices, wherever they lie: goals that a search meets -/
def RH (w0 : World) (own : List Nat) (H : List Asrt) (p : World → Prop) : Prop := ∀ w, Sat w0 own H w → p w
section
variable {w0 : World} {own : List Nat} {H : List Asrt}
theorem RH.and {p q : World → Prop} (h1 : RH w0 own H p) (h2 : RH w0 own H q) : RH w0 own H (fun w => p w ∧ q w) := fun w s => ⟨h1 w s, h2 w s⟩
theorem RH.of {p : Prop} (h : p) : RH w0 own H (fun _ => p) := fun _ _ => h
theorem RH.row {ao : Option Addr} {n m cap E sz : Nat} {C : List Value} (hm : In (Eng.row (.slice ao n cap) E sz m C) H) : RH w0 own H (fun w => Rd w ao C) := fun _ s => (s.rd_row hm).1
theorem RH.rowAt {g n cap E sz : Nat} {C : List Value} (hm : In (Eng.rowAt g cap E sz n C) H) : RH w0 own H (fun w => Rd w (some ⟨g, 0, none⟩) C) := fun _ s => (s.rd_rowAt hm).1
theorem RH.bat {ao : Option Addr} {n cap : Nat} {l : List UInt8} (hm : In (bAt (.slice ao n cap) l) H) : RH w0 own H (fun w => Rd w ao (bcs l)) := fun _ s => by
  obtain ⟨ao', cap', h1, _, h3⟩ := s.rd_bAt hm
  cases h1
  exact h3
theorem RH.blk {b E off k : Nat} {C D : List Value} (hm : In (Eng.blk b C E) H) (e : (C.drop off).take k = D) : RH w0 own H (fun w => Rd w (some ⟨b, off, none⟩) D) := fun _ s => e ▸ s.rd_blk hm k
theorem RH.blk0 {b E : Nat} {C : List Value} (hm : In (Eng.blk b C E) H) : RH w0 own H (fun w => Rd w (some ⟨b, 0, none⟩) C) := fun _ s => by
  have h1 := s.rd_blk hm C.length (off := 0)
  rwa [List.drop_zero, List.take_length] at h1
theorem RH.old {ao : Option Addr} {C : List Value} (h : Rd w0 ao C) : RH w0 [] H (fun w => Rd w ao C) := fun _ s => s.old h
theorem RH.nil {ao : Option Addr} : RH w0 own H (fun w => Rd w ao []) := fun w _ => Rd.nil w ao
theorem RH.off {ao : Option Addr} {l : List UInt8} {i k m : Nat} (h : RH w0 own H (fun w => Rd w ao (bcs l))) (hm : k ≤ m) : RH w0 own H (fun w => Rd w (offA ao i m) (bcs ((l.drop i).take k))) := fun w s => by
  have := (h w s).off i k m hm
  rwa [bcs_drop, bcs_take] at this
theorem RH.subM {ao : Option Addr} {l : List UInt8} {i k : Nat} (h : RH w0 own H (fun w => Rd w ao (bcs l))) : RH w0 own H (fun w => Rd w (ao.map (·.add i)) (bcs ((l.drop i).take k))) := fun w s => by
  have h1 := h w s
  rw [← bcs_take, ← bcs_drop]
  cases ao with
  | none =>
    refine ⟨fun _ => by rw [h1.1 rfl]; simp, fun a ha => (by cases ha)⟩
  | some a => exact Rd.some_ ((h1.2 a rfl).sub i k)
theorem RH.take {ao : Option Addr} {l : List UInt8} {k : Nat} (h : RH w0 own H (fun w => Rd w ao (bcs l))) : RH w0 own H (fun w => Rd w ao (bcs (l.take k))) := fun w s => by
  have := (h w s).take k
  rwa [bcs_take] at this
theorem RH.b {ao : Option Addr} {n cap : Nat} {l : List UInt8} (h : RH w0 own H (fun w => Rd w ao (bcs l))) (hn : n = l.length) (hc : n ≤ cap) : RH w0 own H (fun w => RdB w (.slice ao n cap) l) := fun w s => ⟨ao, cap, by rw [hn], hn ▸ hc, h w s⟩
theorem RH.brow {ao : Option Addr} {n m cap E : Nat} {l : List UInt8} (hm : In (Eng.row (.slice ao n cap) E 1 m (bcs l)) H) : RH w0 own H (fun w => RdB w (.slice ao n cap) l) := fun w s => by
  obtain ⟨h1, h2, h3, h4, _⟩ := s.rd_row hm
  rw [bcs_length] at h4
  exact ⟨ao, cap, by rw [h4, Nat.mul_one], by omega, h1⟩
theorem RH.bbat {v : Value} {l : List UInt8} (hm : In (bAt v l) H) : RH w0 own H (fun w => RdB w v l) := fun w s => s.rd_bAt hm
theorem RH.bold {v : Value} {l : List UInt8} (h : RdB w0 v l) : RH w0 [] H (fun w => RdB w v l) := fun _ s => h.kept s.fr
theorem RH.lnil : RH w0 own H (fun w => RdL w [] []) := fun _ _ => trivial
theorem RH.lcons {v : Value} {V : List Value} {l : List UInt8} {L : List (List UInt8)} (h1 : RH w0 own H (fun w => RdB w v l)) (h2 : RH w0 own H (fun w => RdL w V L)) : RH w0 own H (fun w => RdL w (v :: V) (l :: L)) := fun w s => ⟨h1 w s, h2 w s⟩
theorem RH.lbs {V : List Value} {L : List (List UInt8)} (hm : In (sepA (bsA V L)) H) (hl : V.length = L.length) : RH w0 own H (fun w => RdL w V L) := fun w s => s.rd_bs hm hl
theorem RH.sblk {b E : Nat} {V : List Value} {L : List (List UInt8)} (hm : In (Eng.blk b V E) H) (h : RH w0 own H (fun w => RdL w V L)) : RH w0 own H (fun w => RdS w (some ⟨b, 0, none⟩) L) := fun w s => by
  refine ⟨V, ?_, h w s⟩
  have h1 := s.rd_blk hm V.length (off := 0)
  rwa [List.drop_zero, List.take_length] at h1
theorem RH.srow {ao : Option Addr} {n m cap E : Nat} {V : List Value} {L : List (List UInt8)} (hm : In (Eng.row (.slice ao n cap) E 1 m V) H) (h : RH w0 own H (fun w => RdL w V L)) : RH w0 own H (fun w => RdS w ao L) := fun w s => ⟨V, (s.rd_row hm).1, h w s⟩
theorem RH.sold {ao : Option Addr} {L : List (List UInt8)} (h : RdS w0 ao L) : RH w0 [] H (fun w => RdS w ao L) := fun _ s => h.kept s.fr
end

section
variable {P : Program} {c : Cx} {l : TL} {H : List Asrt} {Q : Exit → Act → World → Prop} {X : Act → World → Prop}
variable {ty : TypeId} {pos : String} {af : Array Edge} {d : Nat} {v : Value} {dst : Option Tmp} {mm : Nat}

/-! ### A function that owns nothing -/
theorem spec_own0 {f : Nat} {fn : Func} {code : Code} {args : List Value} {w : World} {R : Ending → List Asrt → Prop} {n : Nat} {l0 : TL} (hf : P.funcs[f]? = some fn) (hb : fn.body = some code) (hn : fn.ntmps = n) (hsz : Nat.ble args.length n = true) (hl : initTL 0 args = l0)
    (K : J ⟨w, [], n, []⟩ l0 [] (code.wp P (bodyPost P fn fun e w' => ∃ H3, R e H3 ∧ Sat w [] H3 w'))) : CSpec P f args [] w R := by
  intro fp h1 h2 h3
  have e : fp = [] := h1
  subst e
  refine calls_of_wp hf hb (K.out _ _ ⟨⟨?_, ?_⟩, rfl, [], h1, h2, fun i hi => ⟨h3 i hi, fun _ => hi⟩, Fr.refl _ _⟩)
  · have : args.length ≤ n := Nat.le_of_ble_eq_true hsz
    simp [hn]; omega
  · intro d v hd
    rw [← hl] at hd
    obtain ⟨_, h5⟩ := initTL_get args 0 d v hd
    have hlt : d < args.length := by
      rcases Nat.lt_or_ge d args.length with hq | hq
      · exact hq
      · rw [Nat.sub_zero, List.getElem?_eq_none hq] at h5; cases h5
    rw [Array.getElem?_append_left (by simpa using hlt)]
    simpa using h5

/-! ### Loads -/
theorem Qr.rd1 {T n : Nat} {z : List Value} [i : Ty P T false n z] {x : Operand} {ao : Option Addr} {C : List Value} {j : Nat} (hx : ev l x = some (.pointer (some ((ao.getD ⟨0, 0, none⟩).add j)))) (hr : RH c.w0 c.own H (fun w => Rd w ao C)) (hv : C[j]? = some v) : Qr P c l H (.load T x) v := fun a w _ _ _ _ s => by
  have hc := (hr w s.2.2).at hv
  simp [execOp, s.1.ev hx, run_load1 (P := P) (T := T) hc]
theorem Qr.rdN {T n : Nat} {z : List Value} [i : Ty P T true n z] {x : Operand} {ao : Option Addr} {C cs : List Value} {j : Nat} (hx : ev l x = some (.pointer (some ((ao.getD ⟨0, 0, none⟩).add j)))) (hr : RH c.w0 c.own H (fun w => Rd w ao C)) (hcs : (C.drop j).take n = cs) (hn : cs.length = n) : Qr P c l H (.load T x) (.agg cs.toArray) := fun a w _ _ _ _ s => by
  have hc := hr w s.2.2
  have hl := run_loadN (P := P) (w := w) (T := T) (ad := (ao.getD ⟨0, 0, none⟩).add j) hn (fun k u hk => by
    rw [Addr.add_add]
    refine hc.at ?_
    rw [← hcs, List.getElem?_take] at hk
    split at hk
    · rwa [List.getElem?_drop] at hk
    · cases hk)
  simp [execOp, s.1.ev hx, hl]
/-- An element's address, of any slice. -/
theorem Qr.indexRd {T E bytes n : Nat} {agg : Bool} {z : List Value} [i : Sl P T E bytes] [t : Ty P E agg n z] {x y : Operand} {ao : Option Addr} {len cap k : Nat} {q : IntKind} {j : Int} {C : List Value} (hx : ev l x = some (.slice ao len cap)) (hy : ev l y = some (.int q j)) (hk : j = (k : Int)) (hj : k < len) (hs : RH c.w0 c.own H (fun w => Rd w ao C)) (hC : k < C.length) :
    Qr P c l H (.indexAddr T x y) (.pointer (some ((ao.getD ⟨0, 0, none⟩).add (k * n)))) := fun a w dst ty pos af s => by
  subst hk
  have h1 := (hs w s.2.2).isSome (by intro e; rw [e] at hC; simp at hC)
  exact Qv.indexSrcs (bytes := bytes) hx hy (by omega) ⟨by omega, by omega⟩ h1 a w dst ty pos af s.1

/-! ### Slices of slices -/
theorem sb {P : Program} {w : World} {k : IntKind} {n y : Nat} {code : BoundsCode} (h : n ≤ y) : (Instr.sliceBound (.int k (n : Int)) y code).run P w = .ok n w := by
  simp [Instr.sliceBound, asIntOf]
  omega
def bnd (l : TL) : Option Operand → Nat → Option Nat
  | none, n => some n
  | some x, _ => match ev l x with
    | some (.int _ z) => some z.toNat
    | _ => none
/-- The bound's value. -/
inductive Bd (l : TL) : Option Operand → Nat → Nat → Prop
  | none {n} : Bd l Option.none n n
  | some {x : Operand} {k : IntKind} {z : Int} {n m : Nat} (h : ev l x = Option.some (.int k z)) (e : z = (m : Int)) : Bd l (Option.some x) n m
theorem Bd.run {y : Option Operand} {n m mx : Nat} {a : Act} {nn : Nat} {code : BoundsCode} {w : World} (h : Bd l y n m) (t : TRel nn l a) (hm : m ≤ mx) :
    ((match y.map a.eval with
      | Option.some v => Instr.sliceBound v mx code
      | Option.none => Pure.pure n : Sem Nat)).run P w = .ok m w := by
  rcases h with _ | ⟨h, e⟩
  · simp
  · subst e
    simp only [Option.map_some, t.ev h]
    exact sb hm
theorem Qv.sl {T E bytes sz : Nat} {agg : Bool} {z : List Value} [i : Sl P T E bytes] [q : Ty P E agg sz z] {x : Operand} {lo hi : Option Operand} {ao : Option Addr} {n cap p r : Nat} (hx : ev l x = some (.slice ao n cap)) (hlo : Bd l lo 0 p) (hhi : Bd l hi n r) (h1 : p ≤ r) (h2 : r ≤ cap) :
    Qv P mm l (.slice T x lo hi none) (.slice (offA ao (p * sz) (cap - p)) (r - p) (cap - p)) := fun a w _ _ _ _ s => by
  have e1 : ((match hi.map a.eval with
      | some v => Instr.sliceBound v cap .sliceAcap
      | none => Pure.pure n : Sem Nat)).run P w = .ok r w := hhi.run s h2
  have e2 : ((match lo.map a.eval with
      | some v => Instr.sliceBound v r .sliceB
      | none => Pure.pure 0 : Sem Nat)).run P w = .ok p w := hlo.run s h1
  have e3 : (Instr.sliceBounds true n cap (lo.map a.eval) (hi.map a.eval) none).run P w = .ok (p, r, cap) w := by
    unfold Instr.sliceBounds
    cases hh : hi.map a.eval with
    | none =>
      rw [hh] at e1
      cases hl : lo.map a.eval with
      | none => rw [hl] at e2; simp at e1 e2 ⊢; omega
      | some u => rw [hl] at e2; simp at e1 e2 ⊢; subst e1; simp [e2]
    | some u =>
      rw [hh] at e1
      cases hl : lo.map a.eval with
      | none => rw [hl] at e2; simp at e1 e2 ⊢; simp [e1]; omega
      | some u' => rw [hl] at e2; simp at e1 e2 ⊢; simp [e1, e2]
  simp only [execOp, s.ev hx, Instr.sliceAt, Instr.slice, Sem.run_bind, run_und i.und, Result.andThen_ok]
  simp only [Option.map_none, e3, Sem.run_bind, Result.andThen_ok, run_size (P := P) (w := w) (T := E), Sem.run_pure]
  unfold offA
  congr 3
  by_cases hc : cap = p
  · simp [hc]
  · rw [if_neg hc, if_neg (by omega)]
theorem Qv.sl3 {T E bytes sz : Nat} {agg : Bool} {z : List Value} [i : Sl P T E bytes] [q : Ty P E agg sz z] {x hi' mx' : Operand} {lo : Option Operand} {ao : Option Addr} {n cap p r m : Nat} {k k' : IntKind} {zr zm : Int} (hx : ev l x = some (.slice ao n cap)) (hlo : Bd l lo 0 p) (hhi : ev l hi' = some (.int k zr)) (er : zr = (r : Int)) (hmx : ev l mx' = some (.int k' zm)) (em : zm = (m : Int)) (h1 : p ≤ r) (h2 : r ≤ m) (h3 : m ≤ cap) :
    Qv P mm l (.slice T x lo (some hi') (some mx')) (.slice (offA ao (p * sz) (m - p)) (r - p) (m - p)) := fun a w _ _ _ _ s => by
  subst er; subst em
  have e2 : ((match lo.map a.eval with
      | some v => Instr.sliceBound v r .slice3C
      | none => Pure.pure 0 : Sem Nat)).run P w = .ok p w := hlo.run s h1
  have e3 : (Instr.sliceBounds true n cap (lo.map a.eval) (some (.int k (r : Int))) (some (.int k' (m : Int)))).run P w = .ok (p, r, m) w := by
    unfold Instr.sliceBounds
    cases hl : lo.map a.eval with
    | none => rw [hl] at e2; simp at e2; simp [sb h2, sb h3]; omega
    | some u => rw [hl] at e2; simp at e2; simp [sb h2, sb h3, e2]
  simp only [execOp, s.ev hx, s.ev hhi, s.ev hmx, Instr.sliceAt, Instr.slice, Sem.run_bind, run_und i.und, Result.andThen_ok]
  simp only [Option.map_some, s.ev hhi, s.ev hmx, e3, Sem.run_bind, Result.andThen_ok, run_size (P := P) (w := w) (T := E), Sem.run_pure]
  unfold offA
  congr 3
  by_cases hc : m = p
  · simp [hc]
  · rw [if_neg hc, if_neg (by omega)]

/-! ### Octets and strings -/
/-- A slice of octets. -/
class Byt (P : Program) (T : Nat) (E : outParam Nat) : Prop where
  und : P.underlying T = some (.slice E)
  el : P.underlying E = some (.int .u8)
theorem Qr.toStr {S T E : Nat} [i : Byt P S E] [j : StrT P T] {x : Operand} {ao : Option Addr} {n cap : Nat} {bs : List UInt8} (hx : ev l x = some (.slice ao n cap)) (hr : RH c.w0 c.own H (fun w => Rd w ao (bcs bs))) (hn : n = bs.length) : Qr P c l H (.convert S T x) (str bs) := fun a w _ _ _ _ s => by
  subst hn
  have h1 := hr w s.2.2
  cases ao with
  | none =>
    have e : bs = [] := bcs_inj ((h1.1 rfl).trans bcs_nil.symm)
    subst e
    have h2 := run_convert_bytes_nil (P := P) w S E i.und i.el 0 cap T j.und
    simp [execOp, s.1.ev hx, h2]
    rfl
  | some ad =>
    have h2 := run_convert_bytes_back (P := P) w S T E ad cap bs i.und i.el j.und (fun k hk => h1.2 ad rfl k _ (bcs_get (List.getElem?_eq_getElem hk)))
    simp [execOp, s.1.ev hx, h2]
theorem J.toBytes {S T E : Nat} [i : Byt P T E] [j : StrT P S] {x : Operand} {bs : List UInt8} (hd : Nat.blt d c.n = true) (hx : ev l x = some (str bs))
    (K : ∀ q : Nat × Nat, bs.length ≤ q.2 → J c ((d, .slice (some ⟨q.1, 0, none⟩) bs.length q.2) :: l) (bAt (.slice (some ⟨q.1, 0, none⟩) bs.length q.2) bs :: H) X) : J c l H (OW P Q ⟨some d, .convert S T x, ty, pos, af, none⟩ X) :=
  J.opv fun a w s => by
    have h2 := run_bytes_of_string (P := P) w S T E ⟨bs.toArray⟩ j.und i.und i.el
    have hsz : (ByteArray.mk bs.toArray).size = bs.length := rfl
    rw [hsz] at h2
    have hge := grownCap_ge w bs.length 0 E
    refine ⟨_, _, by simp only [execOp, s.1.ev hx, Sem.run_bind, h2, Result.andThen_ok]; rfl, K (w.heap.size, grownCap w bs.length 0 E) hge _ _ ⟨s.1.put hd, s.2.1, s.2.2.drew.new _ _ fun h' hh => ?_⟩⟩
    · refine .inr ⟨w.heap.size, 0, _, _, _, _, rfl, hge, rfl, hh, fun k u hk => ?_⟩
      rw [Nat.zero_add]
      have hk' : k < bs.length := by
        have := (List.getElem?_eq_some_iff.1 hk).1
        rwa [bcs_length] at this
      rw [bytesRow_at _ _ k (by simpa using hk')]
      rw [← hk, bcs_get (List.getElem?_eq_getElem hk')]
      simp [bcell]

/-! ### Calls -/
/-- A call by a contract that asks for what is told of the world. -/
theorem J.callS {f : Nat} [i : Enters P f] {xs : List Operand} {ts : Array TypeId} {vs : List Value} {H1 H2 : List Asrt} {R : Ending → List Asrt → Prop} (hd : Nat.blt d c.n = true) (hx : evs l xs = some vs) (ho : Outs H1 H H2)
    (hS : RH c.w0 c.own H (fun w => CSpec P f vs H1 w R))
    (K1 : ∀ v H3, R (.returned v) H3 → J c ((d, v) :: l) (H3 ++ H2) X)
    (K2 : ∀ ch H3, R (.panicked ch) H3 → J c l (H3 ++ H2) (Q (.panic ch)))
    (K3 : ∀ H3, ¬ R .outgrown H3) :
    J c l H (OW P Q ⟨some d, .call ⟨.value (.func f), xs.toArray, ts⟩, ty, pos, af, none⟩ X) := J.mk fun a w s => by
  unfold OW Oper.wp
  rw [run_call s.1 hx w]
  obtain ⟨fp, hh, hn, hi, hf⟩ := s.2.2.perm ho.perm
  obtain ⟨f1, g1, rfl, h1, h2⟩ := hh.split
  have hc := hS w s.2.2 f1 h1 (List.nodup_append.1 hn).1 (fun i hi' => (hi i (List.mem_append_left _ hi')).1)
  refine Calls.mono hc fun e w' ⟨H3, hR, h3⟩ => ?_
  have h4 := Sat.call hn hi hf h2 h3
  cases e with
  | returned v => exact K1 v H3 hR _ _ ⟨s.1.put hd, s.2.1, h4⟩
  | panicked ch => exact K2 ch H3 hR _ _ ⟨s.1, s.2.1, h4⟩
  | outgrown => exact (K3 H3 hR).elim
/-- It gives a value. -/
theorem J.givesR {f : Nat} [i : Enters P f] {xs : List Operand} {ts : Array TypeId} {vs : List Value} {r : Value} {pre : World → Prop} (hS : ∀ w, pre w → CSpec P f vs [] w (Gives r)) (hd : Nat.blt d c.n = true) (hx : evs l xs = some vs) (hp : RH c.w0 c.own H pre)
    (K : J c ((d, r) :: l) H X) : J c l H (OW P Q ⟨some d, .call ⟨.value (.func f), xs.toArray, ts⟩, ty, pos, af, none⟩ X) :=
  J.callS hd hx .nil (fun w s => hS w (hp w s)) (fun v H3 ⟨h1, h2⟩ => by cases h1; subst h2; exact K) (fun ch H3 ⟨h1, _⟩ => by cases h1) (fun H3 ⟨h1, _⟩ => by cases h1)
/-- It gives a new row. -/
theorem J.freshR {f : Nat} [i : Enters P f] {xs : List Operand} {ts : Array TypeId} {vs : List Value} {E sz n : Nat} {C : List Value} {pre : World → Prop} (hS : ∀ w, pre w → CSpec P f vs [] w (Fresh E sz n C [])) (hd : Nat.blt d c.n = true) (hx : evs l xs = some vs) (hp : RH c.w0 c.own H pre)
    (K : ∀ q : Option Addr × Nat, n ≤ q.2 → J c ((d, .slice q.1 n q.2) :: l) (row (.slice q.1 n q.2) E sz n C :: H) X) : J c l H (OW P Q ⟨some d, .call ⟨.value (.func f), xs.toArray, ts⟩, ty, pos, af, none⟩ X) :=
  J.callS hd hx .nil (fun w s => hS w (hp w s)) (fun v H3 ⟨u, h1, h2⟩ => by
    cases h1; subst h2
    refine J.mk fun a w s => ?_
    obtain ⟨fp, hh, _⟩ := s.2.2.mem (List.mem_cons_self ..)
    have hv : ∃ q : Option Addr × Nat, v = .slice q.1 n q.2 ∧ n ≤ q.2 := by
      rcases hh with ⟨rfl, rfl, _⟩ | ⟨g, cap, rfl, rfl, hl, hc, _⟩
      · exact ⟨(none, 0), rfl, Nat.le_refl _⟩
      · exact ⟨(some ⟨g, 0, none⟩, cap), rfl, hc⟩
    obtain ⟨q, rfl, hq⟩ := hv
    exact (K q hq).out a w s) (fun ch H3 ⟨u, h1, _⟩ => by cases h1) (fun H3 ⟨u, h1, _⟩ => by cases h1)
/-- A block that is a row. -/
theorem blkRow_ {b n E sz : Nat} {C : List Value} {h : Hp} {fp : List Nat} (hl : C.length = n * sz) (hn : n ≤ maxLen) (hh : (Eng.blk b C E).holds h fp) : (Eng.row (.slice (some ⟨b, 0, none⟩) n n) E sz n C).holds h fp := by
  obtain ⟨rfl, hb⟩ := hh
  refine .inr ⟨b, n, rfl, rfl, hl, Nat.le_refl _, hn, C.toArray, hb, by simpa using hl, ?_⟩
  rw [← hl]
  simp
theorem J.freshBlk {b n E sz : Nat} {C C' : List Value} {R : List Asrt} (ho : Out (Eng.blk b C E) H R) (e : C = C') (hl : C'.length = n * sz) (hn : n ≤ maxLen) : J c l H (fun _ w => ∃ H3, Fresh E sz n C' [] (.returned (.slice (some ⟨b, 0, none⟩) n n)) H3 ∧ Sat c.w0 c.own H3 w) := J.mk fun a w s => by
  subst e
  have s1 := (s.2.2.perm ho.perm).conv (A' := Eng.row (.slice (some ⟨b, 0, none⟩) n n) E sz n C) fun _ _ hh => blkRow_ hl hn hh
  exact ⟨[_], ⟨_, rfl, rfl⟩, Sat.drops (H' := R) (s1.perm (List.perm_append_comm (l₁ := [_])))⟩
theorem J.blkRow {b n E sz : Nat} {C C' : List Value} {H' : List Asrt} {G : Act → World → Prop} (ho : Out (Eng.blk b C E) H H') (e : C = C') (hl : C'.length = n * sz) (hn : n ≤ maxLen) (K : J c l (Eng.row (.slice (some ⟨b, 0, none⟩) n n) E sz n C' :: H') G) : J c l H G := J.mk fun a w s => by
  subst e
  exact K.out a w ⟨s.1, s.2.1, (s.2.2.perm ho.perm).conv fun _ _ hh => blkRow_ hl hn hh⟩
theorem J.freshRow {v r : Value} {n n' E sz : Nat} {C C' : List Value} {R : List Asrt} (ho : Out (Eng.row v E sz n C) H R) (hr : r = v) (en : n = n') (e : C = C') : J c l H (fun _ w => ∃ H3, Fresh E sz n' C' [] (.returned r) H3 ∧ Sat c.w0 c.own H3 w) := J.mk fun a w s => by
  subst e; subst en; subst hr
  exact ⟨[_], ⟨_, rfl, rfl⟩, Sat.drops (H' := R) ((s.2.2.perm ho.perm).perm (List.perm_append_comm (l₁ := [_])))⟩
theorem J.reR {v v' : Value} {E sz n n' : Nat} {C C' : List Value} {H' : List Asrt} {G : Act → World → Prop} (hu : Upd (Eng.row v E sz n C) (Eng.row v' E sz n' C') H H') (ev : v = v') (en : n = n') (e : C = C') (K : J c l H' G) : J c l H G := by
  subst ev; subst en; subst e
  have : H = H' := by
    clear K
    induction hu with
    | here => rfl
    | there _ ih => rw [ih]
  subst this
  exact K
theorem RH.true_ {w0 : World} {own : List Nat} : RH w0 own H (fun _ => True) := fun _ _ => trivial

/-! ### append of what is read -/
theorem run_append_zero {T E : Nat} {bytes agg sz z} [i : Sl P T E bytes] [t : Ty P E agg sz z] {base ao : Option Addr} {n cap cx : Nat} {tt : TypeId} (w : World) (hn : n ≤ cap) :
    (Builtin.append_ #[T, T] tt #[.slice base n cap, .slice ao 0 cx]).run P w = .ok (.slice base n cap) w := by
  have h1 : (loadCells (ao.getD ⟨0, 0, none⟩) 0).run P w = .ok #[] w := run_loadCells_list (P := P) w _ [] (fun j v h => by simp at h)
  cases ao with
  | none => cases base <;> simp [Builtin.append_, run_und i.und, run_size (P := P) (w := w) (T := E), Builtin.lenOf, Builtin.firstCells, hn, storeCells]
  | some ad =>
    simp only [Option.getD_some] at h1
    cases base <;> simp [Builtin.append_, run_und i.und, run_size (P := P) (w := w) (T := E), Builtin.lenOf, Builtin.firstCells, hn, h1, storeCells]
theorem J.appendR {T E bytes agg sz z} [i : Sl P T E bytes] [t : Ty P E agg sz z] {s x : Operand} {n m cx : Nat} {C news : List Value} {H1 : List Asrt} {ao : Option Addr} (hd : Nat.blt d c.n = true) (hs : ev l s = some v) (ho : Out (row v E sz n C) H H1) (hx : ev l x = some (.slice ao m cx))
    (hr : RH c.w0 c.own H (fun w => Rd w ao news)) (hl : news.length = m * sz) (h1 : news.all (·.oneCell') = true) (hz : z.length = sz) (hsz : (sz == 0) = false) (h63 : n + m ≤ maxLen) (hby : (n + m) * bytes ≤ 140737488355328)
    (K : ∀ q : Option Addr × Nat, n + m ≤ q.2 → J c ((d, .slice q.1 (n + m) q.2) :: l) (row (.slice q.1 (n + m) q.2) E sz (n + m) (C ++ news) :: H1) X) : J c l H (OW P Q ⟨some d, .call ⟨.builtin .append, #[s, x], #[T, T]⟩, ty, pos, af, none⟩ X) := by
  have K' : ∀ v', J c ((d, v') :: l) (row v' E sz (n + m) (C ++ news) :: H1) X := fun v' => J.mk fun a w s => by
    obtain ⟨fp, hh, _⟩ := s.2.2.mem (List.mem_cons_self ..)
    have hv : ∃ q : Option Addr × Nat, v' = .slice q.1 (n + m) q.2 ∧ n + m ≤ q.2 := by
      rcases hh with ⟨rfl, h0, _⟩ | ⟨g, cap, rfl, rfl, hl, hc, _⟩
      · exact ⟨(none, 0), by rw [h0], by omega⟩
      · exact ⟨(some ⟨g, 0, none⟩, cap), rfl, hc⟩
    obtain ⟨q, rfl, hq⟩ := hv
    exact (K q hq).out a w s
  rcases Nat.eq_zero_or_pos m with rfl | hm
  · have hnil : news = [] := List.eq_nil_of_length_eq_zero (by simpa using hl)
    subst hnil
    refine J.opv fun a w st => ?_
    obtain ⟨cbs, hrun⟩ := run_builtin (P := P) (b := .append) (xs := [s, x]) (ts := #[T, T]) (vs := [v, .slice ao 0 cx]) (dst := some d) (ty := ty) (pos := pos) (af := af) st.1 (by simp [evs, hs, hx]) w
    rw [show ([s, x] : List Operand).toArray = #[s, x] from rfl] at hrun
    have s1 := st.2.2.perm ho.perm
    obtain ⟨fp, hh, _⟩ := s1.mem (List.mem_cons_self ..)
    have hv : ∃ base cap, v = .slice base n cap ∧ n ≤ cap := by
      rcases hh with ⟨rfl, h0, _⟩ | ⟨g, cap, rfl, rfl, hl, hc, _⟩
      · exact ⟨none, 0, by rw [h0], by omega⟩
      · exact ⟨some ⟨g, 0, none⟩, cap, rfl, hc⟩
    obtain ⟨base, cap, rfl, hc⟩ := hv
    refine ⟨.slice base n cap, w, ?_, ?_⟩
    · rw [hrun]
      simp only [builtin, Sem.run_bind]
      rw [show ([Value.slice base n cap, Value.slice ao 0 cx] : List Value).toArray = #[.slice base n cap, .slice ao 0 cx] from rfl, run_append_zero (bytes := bytes) w hc]
      rfl
    · have k := K' (.slice base n cap)
      simp only [Nat.add_zero, List.append_nil] at k
      exact k.out _ _ ⟨st.1.put hd, st.2.1, s1⟩
  · cases ao with
    | none =>
      refine J.mk fun a w st => ?_
      have := (hr w st.2.2).1 rfl
      subst this
      exfalso
      have h0 : sz = 0 := by
        rcases Nat.eq_zero_or_pos sz with h | h
        · exact h
        · have := Nat.mul_pos hm h
          simp at hl; omega
      subst h0
      cases hsz
    | some ad => exact J.appendCore (bytes := bytes) hd hs ho hx (fun a w st => (hr w st.2.2).2 ad rfl) hl h1 hz hsz (by simpa using (by omega : m ≠ 0)) h63 hby K'
end
end Go.Proofs.Ytfcaeifpclpnoaa.Eng
