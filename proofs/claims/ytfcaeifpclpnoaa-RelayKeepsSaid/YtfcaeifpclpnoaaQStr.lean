/-
  The engine, part 10: strings, as lists of octets. No conditions.
-/
import Derived.Test.YtfcaeifpclpnoaaQFl
import Derived.Laws.Strings
import Derived.Laws.Strings2
import Derived.Laws.Concat
namespace Go.Proofs.Ytfcaeifpclpnoaa.Eng
open Go Go.RowKit
set_option linter.unusedVariables false
set_option linter.unusedSimpArgs false

/-- A string of octets. -/
abbrev str (l : List UInt8) : Value := .string ⟨l.toArray⟩
theorem str_data (s : ByteArray) : Value.string s = str s.data.toList := rfl
theorem toList_mk (l : List UInt8) : (ByteArray.mk l.toArray).toList = l := by simp [ByteArray.toList_eq]
section
variable {P : Program} {l : TL} {m : Nat}
theorem Qv.lenS8 {T : Nat} [i : StrT P T] {x : Operand} {s : List UInt8} (hx : ev l x = some (str s)) : Qv P m l (.call ⟨.builtin .len, #[x], #[T]⟩) (.int .i64 (s.length : Int)) := Qv.lenStr hx
theorem Qv.idxS {T : Nat} [i : StrT P T] {x y : Operand} {k : IntKind} {s : List UInt8} {j : Int} {n : Nat} {b : UInt8} (hx : ev l x = some (str s)) (hy : ev l y = some (.int k j)) (hj : j = (n : Int)) (hb : s[n]? = some b) : Qv P m l (.index T x y) (.int .u8 (b.toNat : Int)) := fun a w _ _ _ _ t => by
  subst hj
  have hlt : n < s.length := (List.getElem?_eq_some_iff.1 hb).1
  have e := (List.getElem?_eq_some_iff.1 hb).2
  have h1 : (ByteArray.mk s.toArray)[n]? = some b := by
    rw [getElem?_pos (ByteArray.mk s.toArray) n hlt]
    exact congrArg some e
  simp [execOp, t.ev hx, t.ev hy, Instr.index, asIntOf, run_und i.und, h1]
theorem Qv.concat {T T' : Nat} {x y : Operand} {s t : List UInt8} (hx : ev l x = some (str s)) (hy : ev l y = some (str t)) (h : s.length + t.length ≤ 9223372036854775807) : Qv P m l (.binOp .add T x y T') (str (s ++ t)) := fun a w _ _ _ _ r => by
  have h1 : ((ByteArray.mk s.toArray).size + (ByteArray.mk t.toArray).size) ≤ 9223372036854775807 := h
  have h2 := run_string_add_sum (P := P) (w := w) (ByteArray.mk s.toArray) (ByteArray.mk t.toArray) h1
  have h3 : ByteArray.mk s.toArray ++ ByteArray.mk t.toArray = ByteArray.mk (s ++ t).toArray := by
    apply ByteArray.ext
    simp
  rw [h3] at h2
  simp [execOp, r.ev hx, r.ev hy, eqGuard, binOp, h2]
theorem Qv.eqlS {T T' : Nat} {x y : Operand} {s t : List UInt8} (hx : ev l x = some (str s)) (hy : ev l y = some (str t)) : Qv P m l (.binOp .eql T x y T') (.bool (decide (s = t))) := fun a w _ _ _ _ r => by
  simp [execOp, r.ev hx, r.ev hy, eqGuard, binOp, Op.stringOp, toList_mk]
  by_cases h : s = t <;> simp [h]
theorem Qv.neqS {T T' : Nat} {x y : Operand} {s t : List UInt8} (hx : ev l x = some (str s)) (hy : ev l y = some (str t)) : Qv P m l (.binOp .neq T x y T') (.bool (!decide (s = t))) := fun a w _ _ _ _ r => by
  simp [execOp, r.ev hx, r.ev hy, eqGuard, binOp, Op.stringOp, toList_mk]
  by_cases h : s = t <;> simp [h]
theorem Qv.lssS {T T' : Nat} {x y : Operand} {s t : List UInt8} (hx : ev l x = some (str s)) (hy : ev l y = some (str t)) : Qv P m l (.binOp .lss T x y T') (.bool (Op.bytesLess s t)) := fun a w _ _ _ _ r => by
  simp [execOp, r.ev hx, r.ev hy, eqGuard, binOp, Op.stringOp, toList_mk]
theorem Qv.sliceS {T : Nat} [i : StrT P T] {x y z : Operand} {k k' : IntKind} {s : List UInt8} {j j' : Int} {n n' : Nat} (hx : ev l x = some (str s)) (hy : ev l y = some (.int k j)) (hz : ev l z = some (.int k' j')) (hj : j = (n : Int)) (hj' : j' = (n' : Int)) (h1 : n ≤ n') (h2 : n' ≤ s.length) :
    Qv P m l (.slice T x (some y) (some z) none) (str ((s.drop n).take (n' - n))) := fun a w _ _ _ _ r => by
  subst hj; subst hj'
  have hs : (ByteArray.mk s.toArray).size = s.length := rfl
  have e := ByteArray.extract_mk s n n'
  simp [execOp, r.ev hx, r.ev hy, r.ev hz, Instr.sliceAt, Instr.slice, Instr.sliceBounds, Instr.sliceBound, asIntOf, run_und i.und, hs, h1, h2, e]
end
end Go.Proofs.Ytfcaeifpclpnoaa.Eng
