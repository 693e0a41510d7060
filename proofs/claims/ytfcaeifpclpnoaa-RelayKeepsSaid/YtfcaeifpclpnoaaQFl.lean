/-
  The engine, part 9: floats that are small whole numbers, and complex numbers of such. No conditions.
-/
import Derived.Test.YtfcaeifpclpnoaaQSrc
import Derived.Laws.ComplexArith
import Derived.SizedLaws
import Derived.ChangeArms
namespace Go.Proofs.Ytfcaeifpclpnoaa.Eng
open Go Go.RowKit
set_option linter.unusedVariables false
set_option linter.unusedSimpArgs false

/-- The word of a whole number. -/
def fl (n : Nat) : Nat := Ieee.double.nearest false n 0

theorem log2_pow {n k : Nat} (h : n ≠ 0) : (n * 2 ^ k).log2 = n.log2 + k := by
  rw [Nat.log2_eq_iff (by have := Nat.two_pow_pos k; exact Nat.mul_ne_zero h (by omega))]
  have h1 := Nat.log2_self_le h
  have h2 := Nat.lt_log2_self (n := n)
  rw [Nat.pow_add, show n.log2 + k + 1 = n.log2 + 1 + k by omega, Nat.pow_add _ _ k]
  exact ⟨Nat.mul_le_mul_right _ h1, Nat.mul_lt_mul_of_pos_right h2 (Nat.two_pow_pos k)⟩

/-- The rung of n ≠ 0: its binade, and what it is there. -/
theorem near {n k : Nat} (h : n ≠ 0) (hn : n < 2 ^ 53) (hk : k ≤ 1074) : Ieee.double.nearest false (n * 2 ^ k) (-(k : Int)) = (n.log2 + 1022) * 2 ^ 52 + n * 2 ^ (52 - n.log2) := by
  have hl : n.log2 < 53 := (Nat.log2_lt h).2 hn
  have h2 := Nat.lt_log2_self (n := n)
  have hm : n * 2 ^ k ≠ 0 := Nat.mul_ne_zero h (by have := Nat.two_pow_pos k; omega)
  have hp : n * 2 ^ (52 - n.log2) < 2 ^ 53 := by
    calc n * 2 ^ (52 - n.log2) < 2 ^ (n.log2 + 1) * 2 ^ (52 - n.log2) := Nat.mul_lt_mul_of_pos_right h2 (Nat.two_pow_pos _)
      _ = 2 ^ 53 := by rw [← Nat.pow_add]; congr 1; omega
  unfold Ieee.Format.nearest
  rw [if_neg hm, log2_pow h]
  have e1 : max (-(k : Int) + ((n.log2 + k : Nat) : Int) - (Ieee.double.fractionBits : Nat)) Ieee.double.leastPlace = (n.log2 : Int) - 52 := by
    have : Ieee.double.leastPlace = -1074 := by decide
    rw [this, show Ieee.double.fractionBits = 52 from rfl]
    omega
  simp only [e1]
  have e2 : ((n.log2 : Int) - 52 - Ieee.double.leastPlace).toNat = n.log2 + 1022 := by
    have : Ieee.double.leastPlace = -1074 := by decide
    rw [this]; omega
  rw [e2]
  have e3 : Ieee.Toward.even.cut false ((n * 2 ^ k) <<< (-(k : Int) - ((n.log2 : Int) - 52)).toNat) ((n.log2 : Int) - 52 - -(k : Int)).toNat = n * 2 ^ (52 - n.log2) := by
    rcases Nat.le_total (k + n.log2) 52 with hc | hc
    · have a1 : (-(k : Int) - ((n.log2 : Int) - 52)).toNat = 52 - n.log2 - k := by omega
      have a2 : ((n.log2 : Int) - 52 - -(k : Int)).toNat = 0 := by omega
      rw [a1, a2, Nat.shiftLeft_eq, Nat.mul_assoc, ← Nat.pow_add, show k + (52 - n.log2 - k) = 52 - n.log2 by omega]
      unfold Ieee.Toward.cut
      simp [Nat.mod_one]
    · have a1 : (-(k : Int) - ((n.log2 : Int) - 52)).toNat = 0 := by omega
      have a2 : ((n.log2 : Int) - 52 - -(k : Int)).toNat = k + n.log2 - 52 := by omega
      rw [a1, a2, Nat.shiftLeft_eq, Nat.pow_zero, Nat.mul_one]
      unfold Ieee.Toward.cut
      rw [log2_pow h, Nat.min_eq_left (by omega), Nat.shiftLeft_eq, Nat.one_mul]
      have hq : n * 2 ^ k = n * 2 ^ (52 - n.log2) * 2 ^ (k + n.log2 - 52) := by
        rw [Nat.mul_assoc, ← Nat.pow_add]; congr 2; omega
      have hpos : 0 < 2 ^ (k + n.log2 - 52) := Nat.two_pow_pos _
      rw [hq]
      simp only [Nat.mul_div_cancel _ hpos, Nat.mul_mod_left]
      have : ¬ 2 ^ (k + n.log2 - 52) = 2 * 0 := by omega
      simp
  rw [e3]
  have e4 : Ieee.double.binade = 2 ^ 52 := rfl
  have e5 : Ieee.double.infRung = 2047 * 2 ^ 52 := by decide
  rw [e4, e5]
  unfold Ieee.Format.word
  simp only [Bool.false_eq_true, if_false]
  exact Nat.min_eq_left (by omega)
theorem fl_near {n k : Nat} (hn : n < 2 ^ 53) (hk : k ≤ 1074) : Ieee.double.nearest false (n * 2 ^ k) (-(k : Int)) = fl n := by
  rcases Nat.eq_zero_or_pos n with rfl | h
  · simp [fl, Ieee.Format.nearest]
  · have := near (n := n) (k := 0) (by omega) hn (by omega)
    rw [near (by omega) hn hk]
    unfold fl
    simpa using this.symm
theorem fl_val {n : Nat} (h : n ≠ 0) (hn : n < 2 ^ 53) : fl n = (n.log2 + 1022) * 2 ^ 52 + n * 2 ^ (52 - n.log2) := by
  rw [← near (k := 0) h hn (by omega)]; simp [fl]
theorem fl_read {n : Nat} (hn : n < 2 ^ 53) : ∃ k : Nat, k ≤ 1074 ∧ Ieee.double.read (fl n) = .number false (n * 2 ^ k) (-(k : Int)) := by
  rcases Nat.eq_zero_or_pos n with rfl | h
  · have h : ∀ k : Nat, k = 1074 → k ≤ 1074 ∧ Ieee.double.read (fl 0) = .number false (0 * 2 ^ k) (-(k : Int)) := fun k hk => by
      rw [Nat.zero_mul]
      subst hk
      exact ⟨Nat.le_refl _, by decide⟩
    exact ⟨_, h _ rfl⟩
  · refine ⟨52 - n.log2, by omega, ?_⟩
    have hl : n.log2 < 53 := (Nat.log2_lt (by omega)).2 hn
    have h1 := Nat.log2_self_le (n := n) (by omega)
    have h2 := Nat.lt_log2_self (n := n)
    have hp : n * 2 ^ (52 - n.log2) < 2 ^ 53 := by
      calc n * 2 ^ (52 - n.log2) < 2 ^ (n.log2 + 1) * 2 ^ (52 - n.log2) := Nat.mul_lt_mul_of_pos_right h2 (Nat.two_pow_pos _)
        _ = 2 ^ 53 := by rw [← Nat.pow_add]; congr 1; omega
    have hq : 2 ^ 52 ≤ n * 2 ^ (52 - n.log2) := by
      calc 2 ^ 52 = 2 ^ n.log2 * 2 ^ (52 - n.log2) := by rw [← Nat.pow_add]; congr 1; omega
        _ ≤ n * 2 ^ (52 - n.log2) := Nat.mul_le_mul_right _ h1
    rw [fl_val (by omega) hn]
    have c1 : ((52 - n.log2 : Nat) : Int) = 52 - (n.log2 : Int) := by omega
    rw [c1]
    generalize n * 2 ^ (52 - n.log2) = K at *
    generalize n.log2 = L at *
    unfold Ieee.Format.read
    have e4 : Ieee.double.binade = 4503599627370496 := by decide
    have e5 : Ieee.double.infRung = 9218868437227405312 := by decide
    have e6 : Ieee.double.signWeight = 9223372036854775808 := by decide
    have e7 : Ieee.double.leastPlace = -1074 := by decide
    simp only [e4, e5, e6, e7, Nat.reducePow] at *
    have d1 : ((L + 1022) * 4503599627370496 + K) / 9223372036854775808 = 0 := by omega
    have d2 : ((L + 1022) * 4503599627370496 + K) % 9223372036854775808 = (L + 1022) * 4503599627370496 + K := by omega
    have d3 : ((L + 1022) * 4503599627370496 + K) / 4503599627370496 = L + 1023 := by omega
    have d4 : 4503599627370496 + ((L + 1022) * 4503599627370496 + K) % 4503599627370496 = K := by omega
    rw [d1, d2, d3, d4, if_neg (by omega), if_pos (by omega)]
    simp only [Ieee.Datum.number.injEq]
    refine ⟨rfl, ?_⟩
    first | (constructor; trivial; omega) | omega
theorem signed_f (m k : Nat) : Ieee.signed false m k = ((m * 2 ^ k : Nat) : Int) := by
  simp [Ieee.signed, Nat.shiftLeft_eq]
theorem fl_add {a b : Nat} (h : a + b < 2 ^ 53) : Ieee.double.add (fl a) (fl b) = some (fl (a + b)) := by
  obtain ⟨i, hi, ei⟩ := fl_read (n := a) (by omega)
  obtain ⟨j, hj, ej⟩ := fl_read (n := b) (by omega)
  unfold Ieee.Format.add
  rw [ei, ej]
  have hb : min (-(i : Int)) (-(j : Int)) = -((max i j : Nat) : Int) := by omega
  simp only [Ieee.Datum.sum, hb, signed_f, Option.map_some, Bool.false_and]
  have h1 : a * 2 ^ i * 2 ^ (-(i : Int) - -((max i j : Nat) : Int)).toNat = a * 2 ^ max i j := by rw [Nat.mul_assoc, ← Nat.pow_add]; congr 2; omega
  have h2 : b * 2 ^ j * 2 ^ (-(j : Int) - -((max i j : Nat) : Int)).toNat = b * 2 ^ max i j := by rw [Nat.mul_assoc, ← Nat.pow_add]; congr 2; omega
  rw [h1, h2]
  have h3 : ((a * 2 ^ max i j : Nat) : Int) + ((b * 2 ^ max i j : Nat) : Int) = (((a + b) * 2 ^ max i j : Nat) : Int) := by rw [Nat.add_mul, Int.natCast_add]
  rw [h3]
  have h4 : (if (((a + b) * 2 ^ max i j : Nat) : Int) = 0 then false else decide ((((a + b) * 2 ^ max i j : Nat) : Int) < 0)) = false := by
    split
    · rfl
    · exact decide_eq_false (by omega)
  rw [h4, Int.natAbs_natCast]
  simp only [Ieee.Format.write]
  rw [fl_near h (by omega)]
theorem compare_nat {a b k : Nat} : compare ((a * 2 ^ k : Nat) : Int) ((b * 2 ^ k : Nat) : Int) = compare a b := by
  have hp := Nat.two_pow_pos k
  simp only [compare, compareOfLessAndEq]
  have h1 : (((a * 2 ^ k : Nat) : Int) < ((b * 2 ^ k : Nat) : Int)) = (a < b) := by
    rw [Int.ofNat_lt]
    exact propext (Nat.mul_lt_mul_right hp)
  have h2 : (((a * 2 ^ k : Nat) : Int) = ((b * 2 ^ k : Nat) : Int)) = (a = b) := by
    rw [Int.ofNat_inj]
    exact propext (Nat.mul_left_inj (by omega))
  simp only [h1, h2]
theorem fl_order {a b : Nat} (ha : a < 2 ^ 53) (hb : b < 2 ^ 53) : Ieee.double.order (fl a) (fl b) = some (compare a b) := by
  obtain ⟨i, hi, ei⟩ := fl_read ha
  obtain ⟨j, hj, ej⟩ := fl_read hb
  unfold Ieee.Format.order
  rw [ei, ej]
  have hm : min (-(i : Int)) (-(j : Int)) = -((max i j : Nat) : Int) := by omega
  simp only [Ieee.Datum.order, hm, signed_f]
  have h1 : a * 2 ^ i * 2 ^ (-(i : Int) - -((max i j : Nat) : Int)).toNat = a * 2 ^ max i j := by rw [Nat.mul_assoc, ← Nat.pow_add]; congr 2; omega
  have h2 : b * 2 ^ j * 2 ^ (-(j : Int) - -((max i j : Nat) : Int)).toNat = b * 2 ^ max i j := by rw [Nat.mul_assoc, ← Nat.pow_add]; congr 2; omega
  rw [h1, h2, compare_nat]
theorem fl_int {n : Nat} (hn : n < 2 ^ 53) : (FloatKind.f64.decode (fl n)).toInt .zero = some (n : Int) := by
  obtain ⟨k, hk, e⟩ := fl_read hn
  have e' : FloatKind.f64.decode (fl n) = .number false (n * 2 ^ k) (-(k : Int)) := e
  rw [e']
  unfold Ieee.Datum.toInt Ieee.Datum.integral
  have h1 : (-(k : Int)).toNat = 0 := by omega
  have h2 : (- -(k : Int)).toNat = k := by omega
  simp only [h1, h2, Nat.shiftLeft_eq, Nat.pow_zero, Nat.mul_one, signed_f, Option.some.injEq]
  congr 1
  unfold Ieee.Toward.cut
  simp only [Bool.toNat_false, Nat.add_zero, Nat.shiftLeft_eq, Nat.one_mul]
  rcases Nat.eq_zero_or_pos n with rfl | h
  · simp
  · rw [log2_pow (by omega), Nat.min_eq_left (by omega), Nat.mul_div_cancel _ (Nat.two_pow_pos k)]
theorem fl_of (n : Nat) : FloatKind.f64.nearest (n : Int) = fl n := by
  unfold FloatKind.nearest FloatKind.encode fl
  simp only [Ieee.Format.write, Int.natAbs_natCast]
  have : decide ((n : Int) < 0) = false := decide_eq_false (by omega)
  rw [this]
  rfl
theorem fl_one : 4607182418800017408 = fl 1 := by decide
theorem fl_zero : 0 = fl 0 := by decide

section
variable {P : Program} {l : TL} {m : Nat}
theorem Qv.cadd {T T' : Nat} {x y : Operand} {p q r s a b c d : Nat} (hx : ev l x = some (.complex .f64 p q)) (hy : ev l y = some (.complex .f64 r s)) (hp : p = fl a) (hq : q = fl b) (hr : r = fl c) (hs : s = fl d) (h1 : a + c < 2 ^ 53) (h2 : b + d < 2 ^ 53) :
    Qv P m l (.binOp .add T x y T') (.complex .f64 (fl (a + c)) (fl (b + d))) := fun ac w _ _ _ _ t => by
  subst hp; subst hq; subst hr; subst hs
  have h3 : cSumBits .add .f64 (fl a) (fl b) (fl c) (fl d) = some (fl (a + c), fl (b + d)) := by
    have e1 : floatBits .add .f64 (fl a) (fl c) = some (fl (a + c)) := fl_add h1
    have e2 : floatBits .add .f64 (fl b) (fl d) = some (fl (b + d)) := fl_add h2
    simp [cSumBits, e1, e2]
  simp [execOp, t.ev hx, t.ev hy, eqGuard, run_complex_sum (P := P) w .add (.inl rfl) T .f64 _ _ _ _ _ _ h3]
theorem Qv.fgeq {T T' : Nat} {x y : Operand} {p q a b : Nat} (hx : ev l x = some (.float .f64 p)) (hy : ev l y = some (.float .f64 q)) (hp : p = fl a) (hq : q = fl b) (h1 : a < 2 ^ 53) (h2 : b < 2 ^ 53) :
    Qv P m l (.binOp .geq T x y T') (.bool (decide (b ≤ a))) := fun ac w _ _ _ _ t => by
  subst hp; subst hq
  have h3 : FloatKind.f64.format.order (fl a) (fl b) = some (compare a b) := fl_order h1 h2
  have h4 : (compare a b == .gt || compare a b == .eq) = decide (b ≤ a) := by
    simp only [compare, compareOfLessAndEq]
    rw [Bool.eq_iff_iff, decide_eq_true_eq]
    split
    · simp; omega
    · split <;> simp <;> omega
  simp [execOp, t.ev hx, t.ev hy, eqGuard, binOp, Op.floatCmp, h3]
  simpa using h4
theorem Qv.fleq {T T' : Nat} {x y : Operand} {p q a b : Nat} (hx : ev l x = some (.float .f64 p)) (hy : ev l y = some (.float .f64 q)) (hp : p = fl a) (hq : q = fl b) (h1 : a < 2 ^ 53) (h2 : b < 2 ^ 53) :
    Qv P m l (.binOp .leq T x y T') (.bool (decide (a ≤ b))) := fun ac w _ _ _ _ t => by
  subst hp; subst hq
  have h3 : FloatKind.f64.format.order (fl a) (fl b) = some (compare a b) := fl_order h1 h2
  have h4 : (compare a b == .lt || compare a b == .eq) = decide (a ≤ b) := by
    simp only [compare, compareOfLessAndEq]
    rw [Bool.eq_iff_iff, decide_eq_true_eq]
    split
    · simp; omega
    · split <;> simp <;> omega
  simp [execOp, t.ev hx, t.ev hy, eqGuard, binOp, Op.floatCmp, h3]
  simpa using h4
theorem Qv.feql {T T' : Nat} {x y : Operand} {p q a b : Nat} (hx : ev l x = some (.float .f64 p)) (hy : ev l y = some (.float .f64 q)) (hu : P.underlying T = some (.float .f64)) (hp : p = fl a) (hq : q = fl b) (h1 : a < 2 ^ 53) (h2 : b < 2 ^ 53) :
    Qv P m l (.binOp .eql T x y T') (.bool (decide (a = b))) := fun ac w _ _ _ _ t => by
  subst hp; subst hq
  have h3 : FloatKind.f64.format.order (fl a) (fl b) = some (compare a b) := fl_order h1 h2
  have h4 : (compare a b == .eq) = decide (a = b) := by
    simp only [compare, compareOfLessAndEq]
    rw [Bool.eq_iff_iff, decide_eq_true_eq]
    split
    · simp; omega
    · split <;> simp <;> omega
  simp [execOp, t.ev hx, t.ev hy, eqGuard, binOp, Op.equal, Op.floatCmp, h3]
  simpa using h4
theorem Qv.fint {S T : Nat} {x : Operand} {p a : Nat} [i : Ik P T .i64] (hx : ev l x = some (.float .f64 p)) (hu : P.underlying S = some (.float .f64)) (hp : p = fl a) (h1 : a < 2 ^ 53) : Qv P m l (.convert S T x) (.int .i64 (a : Int)) := fun ac w _ _ _ _ t => by
  subst hp
  have h3 : floatToIntVal .f64 (fl a) .i64 = some (a : Int) := by
    unfold floatToIntVal
    rw [fl_int h1]
    have b1 : IntKind.i64.min = -9223372036854775808 := by decide
    have b2 : IntKind.i64.max = 9223372036854775807 := by decide
    simp only [b1, b2]
    rw [if_pos (by omega)]
  simp [execOp, t.ev hx, run_convert_float_int (P := P) w S T .f64 .i64 _ _ (by rw [hu]; rfl) i.und h3]
theorem Qv.intf {S T : Nat} {x : Operand} {k q : IntKind} {e : Int} {a : Nat} [i : Ik P S k] (hx : ev l x = some (.int q e)) (hu : P.underlying T = some (.float .f64)) (he : e = (a : Int)) : Qv P m l (.convert S T x) (.float .f64 (fl a)) := fun ac w _ _ _ _ t => by
  subst he
  simp [execOp, t.ev hx, convert, run_und i.und, run_und hu, Conv.intToFloat, fl_of]
theorem Qv.real {x : Operand} {T : Nat} {k : FloatKind} {a b : Nat} (hx : ev l x = some (.complex k a b)) : Qv P m l (.call ⟨.builtin .real, #[x], #[T]⟩) (.float k a) := fun a' w dst ty pos af s => by
  obtain ⟨cs, h⟩ := run_builtin (P := P) (b := .real) (xs := [x]) (ts := #[T]) (vs := [.complex k a b]) (dst := dst) (ty := ty) (pos := pos) (af := af) s (by simp [evs, hx]) w
  rw [show ([x] : List Operand).toArray = #[x] from rfl] at h
  rw [h]
  have e : Builtin.real_ #[T] ty #[.complex k a b] = Pure.pure (f := Sem) (Value.float k a) := rfl
  simp [builtin, e]
theorem Qv.imag {x : Operand} {T : Nat} {k : FloatKind} {a b : Nat} (hx : ev l x = some (.complex k a b)) : Qv P m l (.call ⟨.builtin .imag, #[x], #[T]⟩) (.float k b) := fun a' w dst ty pos af s => by
  obtain ⟨cs, h⟩ := run_builtin (P := P) (b := .imag) (xs := [x]) (ts := #[T]) (vs := [.complex k a b]) (dst := dst) (ty := ty) (pos := pos) (af := af) s (by simp [evs, hx]) w
  rw [show ([x] : List Operand).toArray = #[x] from rfl] at h
  rw [h]
  have e : Builtin.imag_ #[T] ty #[.complex k a b] = Pure.pure (f := Sem) (Value.float k b) := rfl
  simp [builtin, e]
theorem Qv.complex {x y : Operand} {T T' : Nat} {k : FloatKind} {a b : Nat} (hx : ev l x = some (.float k a)) (hy : ev l y = some (.float k b)) : Qv P m l (.call ⟨.builtin .complex, #[x, y], #[T, T']⟩) (.complex k a b) := fun a' w dst ty pos af s => by
  obtain ⟨cs, h⟩ := run_builtin (P := P) (b := .complex) (xs := [x, y]) (ts := #[T, T']) (vs := [.float k a, .float k b]) (dst := dst) (ty := ty) (pos := pos) (af := af) s (by simp [evs, hx, hy]) w
  rw [show ([x, y] : List Operand).toArray = #[x, y] from rfl] at h
  rw [h]
  have e : Builtin.complex_ #[T, T'] ty #[.float k a, .float k b] = if k = k then Pure.pure (f := Sem) (Value.complex k a b) else stuck "complex: parts of different kinds" := rfl
  simp [builtin, e]
theorem Qv.fgeqC {T T' : Nat} {x y : Operand} {p q : Nat} (r : Bool) (hx : ev l x = some (.float .f64 p)) (hy : ev l y = some (.float .f64 q)) (h : (Ieee.double.order p q == some .gt || Ieee.double.order p q == some .eq) = r) :
    Qv P m l (.binOp .geq T x y T') (.bool r) := fun ac w _ _ _ _ t => by
  have e : FloatKind.f64.format = Ieee.double := rfl
  simp [execOp, t.ev hx, t.ev hy, eqGuard, binOp, Op.floatCmp, e]
  exact h
theorem Qv.fleqC {T T' : Nat} {x y : Operand} {p q : Nat} (r : Bool) (hx : ev l x = some (.float .f64 p)) (hy : ev l y = some (.float .f64 q)) (h : (Ieee.double.order p q == some .lt || Ieee.double.order p q == some .eq) = r) :
    Qv P m l (.binOp .leq T x y T') (.bool r) := fun ac w _ _ _ _ t => by
  have e : FloatKind.f64.format = Ieee.double := rfl
  simp [execOp, t.ev hx, t.ev hy, eqGuard, binOp, Op.floatCmp, e]
  exact h
theorem Qv.feqlC {T T' : Nat} {x y : Operand} {p q : Nat} (r : Bool) (hx : ev l x = some (.float .f64 p)) (hy : ev l y = some (.float .f64 q)) (h : (Ieee.double.order p q == some .eq) = r) :
    Qv P m l (.binOp .eql T x y T') (.bool r) := fun ac w _ _ _ _ t => by
  have e : FloatKind.f64.format = Ieee.double := rfl
  simp [execOp, t.ev hx, t.ev hy, eqGuard, binOp, Op.floatCmp, e]
  exact h
theorem Qv.fintC {S T : Nat} {x : Operand} {p : Nat} (n : Int) [i : Ik P T .i64] (hx : ev l x = some (.float .f64 p)) (hu : P.underlying S = some (.float .f64)) (h : floatToIntVal .f64 p .i64 = some n) : Qv P m l (.convert S T x) (.int .i64 n) := fun ac w _ _ _ _ t => by
  simp [execOp, t.ev hx, run_convert_float_int (P := P) w S T .f64 .i64 _ _ (by rw [hu]; rfl) i.und h]
end

theorem wfu32 {x : Int} (h : (Lit.int .u32 x).wf = true) : 0 ≤ x ∧ x ≤ 4294967295 := by
  simp [Lit.wf, IntKind.min, IntKind.max, IntKind.signed, IntKind.bits] at h; omega
/-! Slices that are only read, nil or not -/
def Srcs (A : Asrt) (ao : Option Addr) (sz n : Nat) (C : Nat → List Value) : Prop :=
  ∀ i, i < n → ao.isSome = true ∧ ∀ h fp, A.holds h fp → ∀ j u, (C i)[j]? = some u → cellH h ((ao.getD ⟨0, 0, none⟩).add (i * sz + j)) = some u
theorem Src.srcs {A : Asrt} {v : Value} {sz n : Nat} {C : Nat → List Value} (h : Src A v sz n C) : ∃ ao cap, v = .slice ao n cap ∧ Srcs A ao sz n C := by
  rcases h with ⟨rfl, rfl⟩ | ⟨a, cap, rfl, h⟩
  · exact ⟨none, 0, rfl, fun i hi => by omega⟩
  · exact ⟨some a, cap, rfl, fun i hi => ⟨rfl, fun h' fp hh j u hu => h h' fp hh i hi j u hu⟩⟩
theorem Srcs.row {g cap E sz n : Nat} {C : List Value} (hl : C.length = n * sz) : Srcs (Eng.rowAt g cap E sz n C) (some ⟨g, 0, none⟩) sz n (fun i => (C.drop (i * sz)).take sz) := by
  intro i hi
  refine ⟨rfl, ?_⟩
  rintro h fp ⟨rfl, hl, hn, hm, cur, hg, hs, ht⟩ j u hu
  dsimp only at hu
  rw [List.getElem?_take] at hu
  split at hu
  · rename_i hj
    rw [List.getElem?_drop, ← ht, List.getElem?_take] at hu
    split at hu
    · rw [Option.getD_some, addr_add]
      simp only [cellH, hg]
      rw [Array.getElem?_toList] at hu
      rw [if_neg (by simp), Nat.zero_add]
      exact hu
    · cases hu
  · cases hu
theorem Srcs.blk {b E sz n : Nat} {C : List Value} (hl : C.length = n * sz) : Srcs (Eng.blk b C E) (some ⟨b, 0, none⟩) sz n (fun i => (C.drop (i * sz)).take sz) := by
  intro i hi
  refine ⟨rfl, ?_⟩
  rintro h fp ⟨rfl, hg⟩ j u hu
  dsimp only at hu
  rw [List.getElem?_take] at hu
  split at hu
  · rename_i hj
    rw [List.getElem?_drop] at hu
    rw [Option.getD_some, addr_add]
    simp only [cellH, hg]
    rw [List.getElem?_toArray, if_neg (by simp), Nat.zero_add]
    exact hu
  · cases hu
section
variable {P : Program} {c : Cx} {l : TL} {H : List Asrt} {m : Nat}
theorem Qv.indexSrcs {T E bytes n : Nat} {agg : Bool} {z : List Value} [i : Sl P T E bytes] [t : Ty P E agg n z] {x y : Operand} {ao : Option Addr} {len cap k : Nat} {q : IntKind} {j : Int} (hx : ev l x = some (.slice ao len cap)) (hy : ev l y = some (.int q j)) (hk : j.toNat = k) (hj : 0 ≤ j ∧ j < (len : Int)) (hs : ao.isSome = true) :
    Qv P m l (.indexAddr T x y) (.pointer (some ((ao.getD ⟨0, 0, none⟩).add (k * n)))) := by
  cases ao with
  | none => cases hs
  | some ad => exact Qv.indexSrc (bytes := bytes) hx hy hk hj
theorem Qv.fieldSrc {S f off agg n} [i : FldT P S f off agg n] {x : Operand} {ad : Addr} (hx : ev l x = some (.pointer (some ad))) : Qv P m l (.fieldAddr S x f) (.pointer (some (ad.add off))) := fun a w _ _ _ _ s => by
  obtain ⟨fs, y, h1, h2, h3, h4, h5⟩ := run_field (P := P) (S := S) (f := f) w
  have hz : ¬ n = 0 := by have := i.pos; simpa using this
  simp [execOp, s.ev hx, Instr.fieldAt, run_und h1, h2, Instr.sureAddr, fieldPlace, h5, hz, h3]
theorem Srcs.at {A : Asrt} {ao : Option Addr} {sz n : Nat} {C : Nat → List Value} (h : Srcs A ao sz n C) {i j k : Nat} {v : Value} (hi : i < n) (hk : k = i * sz + j) (hv : (C i)[j]? = some v) : ∀ h' fp, A.holds h' fp → cellH h' ((ao.getD ⟨0, 0, none⟩).add k) = some v := by
  subst hk
  exact fun h' fp hh => (h i hi).2 h' fp hh j v hv
theorem Srcs.at2 {A : Asrt} {ao : Option Addr} {sz n : Nat} {C : Nat → List Value} (h : Srcs A ao sz n C) {i j : Nat} {v : Value} (hi : i < n) (hv : (C i)[j]? = some v) : ∀ h' fp, A.holds h' fp → cellH h' (((ao.getD ⟨0, 0, none⟩).add (i * sz)).add j) = some v := by
  rw [Addr.add_add]
  exact h.at hi rfl hv
theorem Srcs.at3 {A : Asrt} {ao : Option Addr} {sz n : Nat} {C : Nat → List Value} (h : Srcs A ao sz n C) {i j k : Nat} {v : Value} (hi : i < n) (hv : (C i)[j + k]? = some v) : ∀ h' fp, A.holds h' fp → cellH h' ((((ao.getD ⟨0, 0, none⟩).add (i * sz)).add j).add k) = some v := by
  rw [Addr.add_add, Addr.add_add]
  exact h.at hi (by omega) hv
end

/-- The reach: a slice that comes in is not too great. -/
theorem sized_len {H : Type} {enc : TypeId × Value → H} {P : Program} {W : World} {spare : Nat → Bool} {held : Bool} {ts : List TypeId} {ds : List (DataW H)} (h : (DataW.weightsEach P ts ds).all (· ≤ reachBytes) = true) {j : Nat} {t e : TypeId} {v : Value} {d : DataW H} {ps : List MemPlace} (ht : ts[j]? = some t) (hd : ds[j]? = some d) (hu : P.underlying t = some (.slice e)) (hT : DataW.Trod enc P W 0 spare held t v d ps) :
    ∀ a len cap, v = .slice (some a) len cap → len * P.bytesOf e ≤ 140737488355328 := by
  rintro a len cap rfl
  obtain ⟨fuel, hT⟩ := hT
  rcases DataW.trod_slice hu hT with ⟨h1, h2⟩ | ⟨a', len', cap', elems, rest, n, _, h1, h2, _, _, _, h3, _⟩
  · simp [Value.cells] at h1
  · simp only [Value.cells, List.cons.injEq, Value.slice.injEq, Option.some.injEq, and_true] at h1
    obtain ⟨_, rfl, _⟩ := h1
    simp only [Prod.mk.injEq] at h2
    have h4 := sized_slice h ht (hd.trans (congrArg some h2.1)) hu
    rw [List.length_map, h3] at h4
    have h5 : reachBytes < 2 ^ 47 := reachBytes_lt
    have h6 : len * P.bytesOf e ≤ (len + (rest.map (·.1)).length) * P.bytesOf e := Nat.mul_le_mul_right _ (Nat.le_add_right _ _)
    omega
theorem Sh.ReadsL.one {W : World} : ∀ {L : List Sh} {cs : List Value}, Sh.ReadsL W L cs → cs.all (·.oneCell') = true
  | [], cs, h => by simp only [Sh.ReadsL] at h; simp [h]
  | s :: L, cs, h => by
    simp only [Sh.ReadsL] at h
    obtain ⟨v, cs', rfl, h1, h2⟩ := h
    rw [List.all_cons, h2.one, Bool.and_true]
    cases s with
    | int k => simp only [Sh.Reads] at h1; obtain ⟨n, rfl, _⟩ := h1; rfl
    | bool => simp only [Sh.Reads] at h1; obtain ⟨n, rfl⟩ := h1; rfl
    | str => simp only [Sh.Reads] at h1; obtain ⟨n, rfl, _⟩ := h1; rfl
    | sl M => simp only [Sh.Reads] at h1; rcases h1 with rfl | ⟨_, _, _, rfl, _⟩ <;> rfl
/-- How many of the first. -/
def cnt (p : Nat → Bool) : Nat → Nat
  | 0 => 0
  | n + 1 => cnt p n + (p n).toNat
theorem cnt_le {p : Nat → Bool} : ∀ n, cnt p n ≤ n
  | 0 => Nat.le_refl _
  | n + 1 => by
    have := cnt_le (p := p) n
    simp only [cnt]
    cases p n <;> simp <;> omega
theorem cnt_mono {p : Nat → Bool} {i : Nat} : ∀ {n : Nat}, i ≤ n → cnt p i ≤ cnt p n
  | 0, h => by
    have : i = 0 := by omega
    subst this; exact Nat.le_refl _
  | n + 1, h => by
    rcases Nat.lt_or_ge i (n + 1) with h1 | h1
    · have := cnt_mono (p := p) (i := i) (n := n) (by omega)
      simp only [cnt]; omega
    · have : i = n + 1 := by omega
      subst this; exact Nat.le_refl _
theorem cnt_yes {p : Nat → Bool} {n : Nat} (h : p n = true) : cnt p (n + 1) = cnt p n + 1 := by simp [cnt, h]
theorem cnt_no {p : Nat → Bool} {n : Nat} (h : p n = false) : cnt p (n + 1) = cnt p n := by simp [cnt, h]
def nsum (f : Nat → Nat) : Nat → Nat
  | 0 => 0
  | n + 1 => nsum f n + f n
theorem nsum_mono {f : Nat → Nat} {i : Nat} : ∀ {n : Nat}, i ≤ n → nsum f i ≤ nsum f n
  | 0, h => by
    have : i = 0 := by omega
    subst this; exact Nat.le_refl _
  | n + 1, h => by
    rcases Nat.lt_or_ge i (n + 1) with h1 | h1
    · have := nsum_mono (f := f) (i := i) (n := n) (by omega)
      simp only [nsum]; omega
    · have : i = n + 1 := by omega
      subst this; exact Nat.le_refl _

/-! make([]T, n) -/
section
variable {P : Program} {c : Cx} {l : TL} {H : List Asrt} {Q : Exit → Act → World → Prop} {X : Act → World → Prop} {ty : TypeId} {pos : String} {af : Array Edge} {d : Nat}
theorem zeros_one {z0 : Value} {len : Nat} : (Array.range len).map (fun k => (#[z0] : Array Value)[k % (#[z0] : Array Value).size]!) = (tab (fun _ => z0) len).toArray := by
  apply Array.ext'
  simp only [Array.toList_map, Array.toList_range]
  refine tab_eq (by simp) fun k hk => ?_
  simp [hk, Nat.mod_one]
theorem J.makeSlice {T E bytes : Nat} {z0 : Value} [i : Sl P T E bytes] [t : Ty P E false 1 [z0]] {x y : Operand} {len : Nat} {k k' : Int} (hd : Nat.blt d c.n = true) (hx : ev l x = some (.int .i64 k)) (hy : ev l y = some (.int .i64 k')) (hk : k = (len : Int)) (hk' : k' = (len : Int)) (hlen : len ≤ 1000) (hb : bytes ≤ 1000)
    (K : ∀ b, J c ((d, .slice (some ⟨b, 0, none⟩) len len) :: l) (blk b (tab (fun _ => z0) len) E :: H) X) : J c l H (OW P Q ⟨some d, .makeSlice T x y, ty, pos, af, none⟩ X) :=
  J.opv fun a w s => by
    subst hk; subst hk'
    obtain ⟨zv, h1, h2⟩ := run_zeroV (P := P) (w := w) (T := E)
    refine ⟨_, w.alloc (.cells (tab (fun _ => z0) len).toArray E), ?_, K w.heap.size _ _ ⟨s.1.put hd, s.2.1, s.2.2.new _ _ fun h' hh => ⟨rfl, hh⟩⟩⟩
    have hbi := i.byt
    obtain ⟨inf, hinf⟩ : ∃ inf, P.info? E = some inf := by
      cases hu : P.info? E with
      | none => rw [hu] at hbi; cases hbi
      | some x => exact ⟨x, rfl⟩
    rw [hinf] at hbi
    simp only [Option.map_some, Option.some.injEq] at hbi
    have hti : (typeInfo E).run P w = .ok inf w := by simp [typeInfo, hinf]
    have hw : IntKind.i64.wrap ((len : Nat) : Int) = (len : Int) := wr64 (by omega) (by omega) rfl
    have hbig : ¬ ((bytes : Int) * (len : Int) > 2 ^ 48) := by
      have : bytes * len ≤ 1000 * 1000 := Nat.mul_le_mul hb hlen
      have h2 : ((bytes * len : Nat) : Int) ≤ ((1000 * 1000 : Nat) : Int) := Int.ofNat_le.2 this
      rw [Int.natCast_mul] at h2
      omega
    have ht : (decide (((len : Nat) : Int) < 0) || decide ((bytes : Int) * (len : Int) > 2 ^ 48)) = false := by
      rw [decide_eq_false (by omega), decide_eq_false hbig]; rfl
    have h48 : ¬ (bytes : Int) * (len : Int) > 281474976710656 := by simpa using hbig
    simp only [execOp, Instr.makeSlice, Sem.run_bind, run_und i.und, Result.andThen_ok, s.1.ev hx, s.1.ev hy, asInt, asIntOf, Sem.run_pure, hti, hbi, hw, ht, Bool.false_or]
    rw [if_neg (by simp only [Bool.or_eq_true, decide_eq_true_eq]; omega)]
    simp only [Sem.run_bind, run_askRoom, Result.andThen_ok, run_size (P := P) (w := w) (T := E), Int.toNat_natCast, Nat.mul_one]
    by_cases h0 : len = 0
    · subst h0
      simp [newRow, tab]
      congr 1
      simp
    · rw [if_neg h0]
      simp only [Sem.run_bind, Sem.run_pure, Result.andThen_ok, h1, h2]
      rw [zeros_one]
      simp [newRow]
end

/-! A block that is a whole row -/
theorem blk_row {b E sz n : Nat} {C : List Value} (hl : C.length = n * sz) (hn : n ≤ maxLen) {h : Hp} {fp : List Nat} (hh : (Eng.blk b C E).holds h fp) : (Eng.rowAt b n E sz n C).holds h fp :=
  ⟨hh.1, hl, Nat.le_refl _, hn, C.toArray, hh.2, by simp [hl], by simp [← hl]⟩
theorem row_blk {b E sz n : Nat} {C : List Value} {h : Hp} {fp : List Nat} (hh : (Eng.rowAt b n E sz n C).holds h fp) : (Eng.blk b C E).holds h fp := by
  obtain ⟨h1, h2, h3, h4, cur, h5, h6, h7⟩ := hh
  refine ⟨h1, ?_⟩
  have e : cur.toList = C := by rw [← h7, ← h6, ← Array.length_toList, List.take_length]
  rw [h5, ← e]
theorem CSpec.blked {P : Program} {f E sz n b : Nat} {C : List Value} {w : World} {r : Value} {args : List Value} (hl : C.length = n * sz) (hn : n ≤ maxLen) (h : CSpec P f args [Eng.rowAt b n E sz n C] w (Keeps r [Eng.rowAt b n E sz n C])) :
    CSpec P f args [Eng.blk b C E] w (Keeps r [Eng.blk b C E]) := by
  rintro fp ⟨f1, g1, rfl, h1, rfl⟩ h2 h3
  refine (h (f1 ++ []) ⟨f1, [], rfl, blk_row hl hn h1, rfl⟩ h2 h3).mono fun e w' hq => ?_
  obtain ⟨H3, ⟨he, rfl⟩, hS⟩ := hq
  exact ⟨_, ⟨he, rfl⟩, Sat.conv hS fun h fp hh => row_blk hh⟩
end Go.Proofs.Ytfcaeifpclpnoaa.Eng
