/-
  The quotient of two words by one: bits.Div64. No conditions.
-/
import Derived.Test.YtnbckkpflmpnlaaLen
namespace Go.Proofs.Ytnbckkpflmpnlaa.Quo
open Go Go.RowKit Eng
set_option linter.unusedVariables false
set_option maxRecDepth 100000
set_option linter.unusedSimpArgs false
open Bits Len Wide
set_option maxHeartbeats 4000000
section
variable {P : Program} {l : TL} {m : Nat}
theorem Qv.quoW {T T' : Nat} {x y : Operand} {e f : Int} (hx : ev l x = some (.int .u64 e)) (hy : ev l y = some (.int .u64 f)) (he : 0 ≤ e ∧ e < 18446744073709551616) (hf : 0 < f) : Qv P m l (.binOp .quo T x y T') (.int .u64 (e / f)) :=
  Qv.quoP hx hy hf he.1 (by
    have h1 := Int.ediv_nonneg he.1 (Int.le_of_lt hf)
    have h2 : e / f ≤ e := Int.ediv_le_self _ he.1
    exact wru64 h1 (by omega) rfl)
theorem Qv.remW {T T' : Nat} {x y : Operand} {e f : Int} (hx : ev l x = some (.int .u64 e)) (hy : ev l y = some (.int .u64 f)) (he : 0 ≤ e ∧ e < 18446744073709551616) (hf : 0 < f) : Qv P m l (.binOp .rem T x y T') (.int .u64 (e % f)) := Qv.remP hx hy hf he.1
theorem Qv.shlP {T T' : Nat} {x y : Operand} {k' : IntKind} {e p : Int} {s : Nat} (hx : ev l x = some (.int .u64 e)) (hy : ev l y = some (.int k' (s : Int))) (hp : (2 : Int) ^ s = p) (hs : s ≤ 64) : Qv P m l (.binOp .shl T x y T') (.int .u64 ((e * p) % 18446744073709551616)) :=
  Qv.shl hx hy (by omega) (by
    have e64 : IntKind.u64.bits = 64 := rfl
    rw [e64, Int.toNat_natCast, Nat.min_eq_left hs, hp, wrap_u])
theorem Qv.shrP {T T' : Nat} {x y : Operand} {k' : IntKind} {e f p : Int} {s : Nat} (hx : ev l x = some (.int .u64 e)) (hy : ev l y = some (.int k' f)) (hf : f = (s : Int)) (hp : (2 : Int) ^ s = p) (hs : s ≤ 64) : Qv P m l (.binOp .shr T x y T') (.int .u64 (e / p)) := by
  subst hf
  refine Qv.shr hx hy (by omega) ?_
  have e64 : IntKind.u64.bits = 64 := rfl
  rw [e64, Int.toNat_natCast, Nat.min_eq_left hs, hp, Int.fdiv_eq_ediv_of_nonneg _ (by rw [← hp]; exact Int.le_of_lt (Int.pow_pos (by decide)))]
theorem or_add {e f : Int} {s : Nat} (a : Int) (ha : e = a * (2 : Int) ^ s) (he : 0 ≤ e ∧ e < 18446744073709551616) (hf : 0 ≤ f ∧ f < (2 : Int) ^ s) (hs : s ≤ 63) : orI .u64 e f = e + f := by
  have e64 : IntKind.u64.bits = 64 := rfl
  have hp : (2 : Int) ^ s = ((2 ^ s : Nat) : Int) := by rw [Int.natCast_pow]; rfl
  have hpos : 0 < 2 ^ s := Nat.two_pow_pos s
  have hle : 2 ^ s ≤ 2 ^ 63 := Nat.pow_le_pow_right (by decide) hs
  rw [hp] at ha hf
  have ha0 : 0 ≤ a := by
    rcases Int.lt_or_le a 0 with h | h
    · exfalso
      have h1 : a * ((2 ^ s : Nat) : Int) ≤ -1 * ((2 ^ s : Nat) : Int) := Int.mul_le_mul_of_nonneg_right (by omega) (by omega)
      omega
    · exact h
  obtain ⟨k, rfl⟩ := Int.eq_ofNat_of_zero_le ha0
  obtain ⟨j, rfl⟩ := Int.eq_ofNat_of_zero_le hf.1
  rw [← Int.natCast_mul] at ha
  subst ha
  unfold orI
  have h1 : (BitVec.ofInt IntKind.u64.bits ((k * 2 ^ s : Nat) : Int) ||| BitVec.ofInt IntKind.u64.bits (j : Int)).toNat = k * 2 ^ s ||| j := by
    rw [BitVec.toNat_or, BitVec.toNat_ofInt, BitVec.toNat_ofInt, e64]
    congr 1 <;> omega
  rw [h1, ← Nat.shiftLeft_eq, ← Nat.shiftLeft_add_eq_or_of_lt (by omega), Nat.shiftLeft_eq]
  have h2 : j < 2 ^ s := by omega
  have h4 : k * 2 ^ s + j < 18446744073709551616 := by
    have e1 : 18446744073709551616 = 2 ^ (64 - s) * 2 ^ s := by rw [← Nat.pow_add]; rw [show 64 - s + s = 64 by omega]
    have h3 : k < 2 ^ (64 - s) := by
      have h5 : k * 2 ^ s < 2 ^ (64 - s) * 2 ^ s := by rw [← e1]; omega
      exact Nat.lt_of_mul_lt_mul_right h5
    have h6 : (k + 1) * 2 ^ s ≤ 2 ^ (64 - s) * 2 ^ s := Nat.mul_le_mul_right _ h3
    rw [Nat.add_mul, Nat.one_mul] at h6
    omega
  rw [wru64 (e := ((k * 2 ^ s + j : Nat) : Int)) (by omega) (by omega) rfl]
  omega
theorem Qv.orP {T T' : Nat} {x y : Operand} {e f : Int} {s : Nat} (a : Int) (hx : ev l x = some (.int .u64 e)) (hy : ev l y = some (.int .u64 f)) (ha : e = a * (2 : Int) ^ s) (he : 0 ≤ e ∧ e < 18446744073709551616) (hf : 0 ≤ f ∧ f < (2 : Int) ^ s) (hs : s ≤ 63) : Qv P m l (.binOp .or T x y T') (.int .u64 (e + f)) := by
  rw [← or_add a ha he hf hs]
  exact Qv.or hx hy
end

/-! The estimate of a digit -/
/-- u * B + u1 is divided by v = n1 * B + n0; q is no less than the digit. -/
structure KI (u v n1 n0 u1 q r : Int) : Prop where
  sum : q * n1 + r = u
  r0 : 0 ≤ r
  q0 : 0 ≤ q
  q1 : q ≤ 4294967296 + 1
  lo : (u * 4294967296 + u1) / v ≤ q
theorem ki_init {u v n1 n0 u1 : Int} (hv : v = n1 * 4294967296 + n0) (hn1 : 2147483648 ≤ n1 ∧ n1 < 4294967296) (hn0 : 0 ≤ n0 ∧ n0 < 4294967296) (hu : 0 ≤ u ∧ u < v) (hu1 : 0 ≤ u1 ∧ u1 < 4294967296) :
    KI u v n1 n0 u1 (u / n1) (u - u / n1 * n1) ∧ u - u / n1 * n1 < n1 := by
  have h1 := Int.mul_ediv_add_emod u n1
  have h2 := Int.emod_nonneg u (show n1 ≠ 0 by omega)
  have h3 := Int.emod_lt_of_pos u (show 0 < n1 by omega)
  have h4 : 0 ≤ u / n1 := Int.ediv_nonneg hu.1 (by omega)
  have h5 : u / n1 * n1 = n1 * (u / n1) := Int.mul_comm _ _
  have h6 : u / n1 ≤ 4294967296 + 1 := by
    rcases Int.lt_or_le (4294967296 + 1) (u / n1) with h | h
    · exfalso
      have h7 : n1 * (4294967296 + 2) ≤ n1 * (u / n1) := Int.mul_le_mul_of_nonneg_left (by omega) (by omega)
      omega
    · exact h
  refine ⟨⟨by omega, by omega, h4, h6, ?_⟩, by omega⟩
  -- the digit times n1 is no more than u
  have h8 := Int.mul_ediv_add_emod (u * 4294967296 + u1) v
  have h9 := Int.emod_nonneg (u * 4294967296 + u1) (show v ≠ 0 by omega)
  have h10 : 0 ≤ (u * 4294967296 + u1) / v := Int.ediv_nonneg (by omega) (by omega)
  generalize (u * 4294967296 + u1) / v = Q at *
  generalize (u * 4294967296 + u1) % v = w at *
  have h11 : Q * n1 ≤ u := by
    rw [hv] at h8
    have h12 : (n1 * 4294967296 + n0) * Q = 4294967296 * (Q * n1) + n0 * Q := by grind
    have h13 : 0 ≤ n0 * Q := Int.mul_nonneg hn0.1 h10
    omega
  exact (Int.le_ediv_iff_mul_le (by omega)).2 h11
/-- It is the digit, if it is not refused. -/
theorem ki_exit {u v n1 n0 u1 q r : Int} (hv : v = n1 * 4294967296 + n0) (hn1 : 2147483648 ≤ n1 ∧ n1 < 4294967296) (hn0 : 0 ≤ n0 ∧ n0 < 4294967296) (h : KI u v n1 n0 u1 q r) (hc : q * n0 ≤ 4294967296 * r + u1) : q = (u * 4294967296 + u1) / v := by
  have h1 : q * v ≤ u * 4294967296 + u1 := by
    rw [hv]
    have h2 := h.sum
    have h3 : q * (n1 * 4294967296 + n0) = 4294967296 * (q * n1) + q * n0 := by grind
    omega
  have h4 := (Int.le_ediv_iff_mul_le (show 0 < v by omega)).2 h1
  have := h.lo
  omega
/-- Refused, it is one too great at least. -/
theorem ki_next {u v n1 n0 u1 q r : Int} (hv : v = n1 * 4294967296 + n0) (hn1 : 2147483648 ≤ n1 ∧ n1 < 4294967296) (hn0 : 0 ≤ n0 ∧ n0 < 4294967296) (hu : 0 ≤ u ∧ u < v) (hu1 : 0 ≤ u1 ∧ u1 < 4294967296) (h : KI u v n1 n0 u1 q r) (hc : 4294967296 ≤ q ∨ 4294967296 * r + u1 < q * n0) : KI u v n1 n0 u1 (q - 1) (r + n1) ∧ 1 ≤ q ∧ q - 1 ≤ 4294967296 := by
  have hQ : (u * 4294967296 + u1) / v ≤ q - 1 := by
    rcases hc with hc | hc
    · have h1 : (u * 4294967296 + u1) / v < 4294967296 := (Int.ediv_lt_iff_lt_mul (show 0 < v by omega)).2 (by omega)
      omega
    · have h1 : u * 4294967296 + u1 < q * v := by
        rw [hv]
        have h2 := h.sum
        have h3 : q * (n1 * 4294967296 + n0) = 4294967296 * (q * n1) + q * n0 := by grind
        omega
      have := (Int.ediv_lt_iff_lt_mul (show 0 < v by omega)).2 h1
      omega
  have h0 : 0 ≤ (u * 4294967296 + u1) / v := Int.ediv_nonneg (by omega) (by omega)
  have hq := h.q1
  refine ⟨⟨?_, by have := h.r0; omega, by omega, by omega, hQ⟩, by omega, by omega⟩
  have h2 := h.sum
  rw [Int.sub_mul, Int.one_mul]
  omega
/-- Its rest is too great for another one: it is the digit. -/
theorem ki_stop {u v n1 n0 u1 q r : Int} (hv : v = n1 * 4294967296 + n0) (hn1 : 2147483648 ≤ n1 ∧ n1 < 4294967296) (hn0 : 0 ≤ n0 ∧ n0 < 4294967296) (hu1 : 0 ≤ u1 ∧ u1 < 4294967296) (h : KI u v n1 n0 u1 q r) (hq : q ≤ 4294967296) (hr : 4294967296 ≤ r) : q = (u * 4294967296 + u1) / v := by
  refine ki_exit hv hn1 hn0 h ?_
  have h1 : q * n0 ≤ 4294967296 * (4294967296 - 1) := Int.mul_le_mul hq (by omega) hn0.1 (by omega)
  omega
section
variable {P : Program} {l : TL} {m : Nat}
theorem Qv.subZ {T T' : Nat} {x y : Operand} {e f z : Int} (hx : ev l x = some (.int .u64 e)) (hy : ev l y = some (.int .u64 f)) (hz : (e - f) % 18446744073709551616 = z) : Qv P m l (.binOp .sub T x y T') (.int .u64 z) := Qv.sub hx hy (by rw [wrap_u]; exact hz)
theorem Qv.shlZ {T T' : Nat} {x y : Operand} {k' : IntKind} {e p z : Int} {s : Nat} (hx : ev l x = some (.int .u64 e)) (hy : ev l y = some (.int k' (s : Int))) (hp : (2 : Int) ^ s = p) (hs : s ≤ 64) (hz : (e * p) % 18446744073709551616 = z) : Qv P m l (.binOp .shl T x y T') (.int .u64 z) := hz ▸ Qv.shlP hx hy hp hs
theorem Qv.shrZ {T T' : Nat} {x y : Operand} {k' : IntKind} {e f z : Int} (d : Int) (hx : ev l x = some (.int .u64 e)) (hy : ev l y = some (.int k' f)) (hf : ¬ f < 0) (hd : (2 : Int) ^ (min f.toNat IntKind.u64.bits) = d) (hz : e / d = z) : Qv P m l (.binOp .shr T x y T') (.int .u64 z) := hz ▸ Qv.shrC d hx hy hf hd
theorem Qv.shrPZ {T T' : Nat} {x y : Operand} {k' : IntKind} {e f p z : Int} {s : Nat} (hx : ev l x = some (.int .u64 e)) (hy : ev l y = some (.int k' f)) (hf : f = (s : Int)) (hp : (2 : Int) ^ s = p) (hs : s ≤ 64) (hz : e / p = z) : Qv P m l (.binOp .shr T x y T') (.int .u64 z) := hz ▸ Qv.shrP hx hy hf hp hs
theorem Qv.andZ {T T' : Nat} {x y : Operand} {e z : Int} (hx : ev l x = some (.int .u64 e)) (hy : ev l y = some (.int .u64 4294967295)) (he : 0 ≤ e ∧ e < 18446744073709551616) (hz : e % 4294967296 = z) : Qv P m l (.binOp .and T x y T') (.int .u64 z) := hz ▸ Qv.andC hx hy he
end
theorem lz_s (n s : Nat) (h : n < 18446744073709551616 ∧ s = 64 - bl n) (w : World) : CSpec Try.prog 102 [.int .u64 (n : Int)] [] w (Gives (.int .i64 (s : Int))) := by
  have h1 := lz64 n h.1 w
  have h2 := bl_le h.1
  rw [show (64 : Int) - (bl n : Int) = (s : Int) by omega] at h1
  exact h1
theorem dg {u v u1 : Int} (hu : 0 ≤ u ∧ u < v) (hu1 : 0 ≤ u1 ∧ u1 < 4294967296) : 0 ≤ (u * 4294967296 + u1) / v ∧ (u * 4294967296 + u1) / v < 4294967296 ∧ 0 ≤ u * 4294967296 + u1 - (u * 4294967296 + u1) / v * v ∧ u * 4294967296 + u1 - (u * 4294967296 + u1) / v * v < v := by
  have h1 := Int.mul_ediv_add_emod (u * 4294967296 + u1) v
  have h2 := Int.emod_nonneg (u * 4294967296 + u1) (show v ≠ 0 by omega)
  have h3 := Int.emod_lt_of_pos (u * 4294967296 + u1) (show 0 < v by omega)
  have h4 : (u * 4294967296 + u1) / v * v = v * ((u * 4294967296 + u1) / v) := Int.mul_comm _ _
  exact ⟨Int.ediv_nonneg (by omega) (by omega), (Int.ediv_lt_iff_lt_mul (show 0 < v by omega)).2 (by omega), by omega, by omega⟩
theorem raw_z {u v u1 q z : Int} (hz : u * 4294967296 + u1 - (u * 4294967296 + u1) / v * v = z) (hb : 0 ≤ z ∧ z < 18446744073709551616) (hq : q = (u * 4294967296 + u1) / v) : ((u * 4294967296) % 18446744073709551616 + u1 - (q * v) % 18446744073709551616) % 18446744073709551616 = z := by
  rw [← hq] at hz
  omega
theorem quo_end {hi lo y p v u x u1 u0 u21 w Q1 Q0 : Int} (hp : 0 < p) (hy : 0 < y) (hv : y * p = v) (hN : (hi * 18446744073709551616 + lo) * p = u * 18446744073709551616 + x) (hx : x = u1 * 4294967296 + u0) (e1 : u * 4294967296 + u1 - Q1 * v = u21) (e0 : u21 * 4294967296 + u0 - Q0 * v = w) (hw : 0 ≤ w ∧ w < v) :
    Q1 * 4294967296 + Q0 = (hi * 18446744073709551616 + lo) / y ∧ w / p = (hi * 18446744073709551616 + lo) % y := by
  have h1 : (hi * 18446744073709551616 + lo) * p = (y * p) * (Q1 * 4294967296 + Q0) + w := by
    rw [hv, hN, hx]
    grind
  generalize hi * 18446744073709551616 + lo = N at *
  have h2 : N * p / (y * p) = Q1 * 4294967296 + Q0 := by
    rw [h1, Int.add_comm, Int.add_mul_ediv_left _ _ (by rw [hv]; omega), Int.ediv_eq_zero_of_lt hw.1 (by rw [hv]; exact hw.2), Int.zero_add]
  rw [Int.mul_ediv_mul_of_pos_left _ _ hp] at h2
  refine ⟨h2.symm, ?_⟩
  have h3 := Int.mul_ediv_add_emod N y
  rw [h2] at h3
  generalize N % y = r at *
  have h5 : N * p = y * p * (Q1 * 4294967296 + Q0) + r * p := by
    rw [← h3]
    grind
  have h4 : w = r * p := by omega
  rw [h4, Int.mul_ediv_cancel _ (by omega)]
theorem div64 (hi lo y : Int) (h : 0 ≤ hi ∧ hi < y ∧ Wo lo ∧ Wo y) (w : World) : CSpec Try.prog 91 [.int .u64 hi, .int .u64 lo, .int .u64 y] [] w (Gives (.tuple [.int .u64 ((hi * 18446744073709551616 + lo) / y), .int .u64 ((hi * 18446744073709551616 + lo) % y)].toArray)) := by
  obtain ⟨hhi0, hlt, hlo, hy⟩ := h
  unfold Wo at *
  obtain ⟨yn, rfl⟩ := Int.eq_ofNat_of_zero_le hy.1
  have hyp : 0 < yn := by omega
  have hb1 := bl_pos hyp
  have hb2 := bl_le (n := yn) (by omega)
  obtain ⟨s, hs⟩ : ∃ s, s = 64 - bl yn := ⟨_, rfl⟩
  have hs63 : s ≤ 63 := by omega
  obtain ⟨p, hp⟩ : ∃ p, (2 : Int) ^ s = p := ⟨_, rfl⟩
  obtain ⟨p2, hp2⟩ : ∃ p, (2 : Int) ^ (64 - s) = p := ⟨_, rfl⟩
  have hpp : p * p2 = 18446744073709551616 := by rw [← hp, ← hp2, ← Int.pow_add, show s + (64 - s) = 64 by omega]; rfl
  have hp0 : 0 < p := by rw [← hp]; exact Int.pow_pos (by decide)
  have hp20 : 0 < p2 := by rw [← hp2]; exact Int.pow_pos (by decide)
  -- the divisor, set up
  have hvb : 9223372036854775808 ≤ (yn : Int) * p ∧ (yn : Int) * p < 18446744073709551616 := by
    have t1 := Nat.log2_self_le (n := yn) (by omega)
    have t2 := Nat.lt_log2_self (n := yn)
    have hpN : p = ((2 ^ s : Nat) : Int) := by rw [← hp, Int.natCast_pow]; rfl
    rw [hpN]
    have e1 : 2 ^ yn.log2 * 2 ^ s = 2 ^ 63 := by rw [← Nat.pow_add]; congr 1; omega
    have e2 : 2 ^ (yn.log2 + 1) * 2 ^ s = 2 ^ 64 := by rw [← Nat.pow_add]; congr 1; omega
    have t3 := Nat.mul_le_mul_right (2 ^ s) t1
    have t4 := Nat.mul_lt_mul_of_pos_right t2 (Nat.two_pow_pos s)
    rw [e1] at t3
    rw [e2] at t4
    omega
  have hhp : hi * p < (yn : Int) * p := Int.mul_lt_mul_of_pos_right hlt hp0
  have hhp0 : 0 ≤ hi * p := Int.mul_nonneg hhi0 (by omega)
  have hhp1 : hi * p + p ≤ (yn : Int) * p := by
    have t := Int.mul_le_mul_of_nonneg_right (show hi + 1 ≤ (yn : Int) by omega) (show 0 ≤ p by omega)
    rw [Int.add_mul, Int.one_mul] at t
    exact t
  have hl2 : 0 ≤ lo / p2 ∧ lo / p2 < p := ⟨Int.ediv_nonneg hlo.1 (by omega), (Int.ediv_lt_iff_lt_mul hp20).2 (by omega)⟩
  have hlx : lo * p = lo / p2 * 18446744073709551616 + lo % p2 * p := by
    have t := Int.mul_ediv_add_emod lo p2
    generalize lo / p2 = a1 at *
    generalize lo % p2 = a2 at *
    rw [← t, ← hpp]
    grind
  have hlr : 0 ≤ lo % p2 * p ∧ lo % p2 * p < 18446744073709551616 := by
    have t1 := Int.emod_nonneg lo (show p2 ≠ 0 by omega)
    have t2 := Int.emod_lt_of_pos lo hp20
    refine ⟨Int.mul_nonneg t1 (by omega), ?_⟩
    rw [← hpp, Int.mul_comm p p2]
    exact Int.mul_lt_mul_of_pos_right t2 hp0
  obtain ⟨v, zv0⟩ : ∃ v, (yn : Int) * p = v := ⟨_, rfl⟩
  obtain ⟨hh, zh0⟩ : ∃ v, hi * p = v := ⟨_, rfl⟩
  obtain ⟨l2, zl⟩ : ∃ v, lo / p2 = v := ⟨_, rfl⟩
  obtain ⟨x, zx0⟩ : ∃ v, lo % p2 * p = v := ⟨_, rfl⟩
  rw [zl, zx0] at hlx
  rw [zx0] at hlr
  rw [zl] at hl2
  rw [zv0] at hvb hhp hhp1
  rw [zh0] at hhp hhp0 hhp1
  have zv : ((yn : Int) * p) % 18446744073709551616 = v := by rw [zv0]; omega
  have zh : (hi * p) % 18446744073709551616 = hh := by rw [zh0]; omega
  have zx : (lo * p) % 18446744073709551616 = x := by rw [hlx]; omega
  obtain ⟨n1, z1⟩ : ∃ n, v / 4294967296 = n := ⟨_, rfl⟩
  obtain ⟨n0, z0⟩ : ∃ n, v % 4294967296 = n := ⟨_, rfl⟩
  obtain ⟨u1, zu1⟩ : ∃ n, x / 4294967296 = n := ⟨_, rfl⟩
  obtain ⟨u0, zu0⟩ : ∃ n, x % 4294967296 = n := ⟨_, rfl⟩
  have hV : v = n1 * 4294967296 + n0 := by omega
  have hX : x = u1 * 4294967296 + u0 := by omega
  have hn1 : 2147483648 ≤ n1 ∧ n1 < 4294967296 := by omega
  have hn0 : 0 ≤ n0 ∧ n0 < 4294967296 := by omega
  have hu1 : 0 ≤ u1 ∧ u1 < 4294967296 := by omega
  have hu0 : 0 ≤ u0 ∧ u0 < 4294967296 := by omega
  have hu : 0 ≤ hh + l2 ∧ hh + l2 < v := by omega
  have ki1 := ki_init hV hn1 hn0 hu hu1
  have ki1r := ki1.1.r0
  have ki1q := ki1.1.q0
  have dg1 := dg hu hu1
  obtain ⟨Q1, zQ1⟩ : ∃ n, ((hh + l2) * 4294967296 + u1) / v = n := ⟨_, rfl⟩
  obtain ⟨u21, zu21⟩ : ∃ n, (hh + l2) * 4294967296 + u1 - ((hh + l2) * 4294967296 + u1) / v * v = n := ⟨_, rfl⟩
  rw [zu21, zQ1] at dg1
  have hu2 : 0 ≤ u21 ∧ u21 < v := by omega
  have hZ : ∀ q, q = ((hh + l2) * 4294967296 + u1) / v → (((hh + l2) * 4294967296) % 18446744073709551616 + u1 - (q * v) % 18446744073709551616) % 18446744073709551616 = u21 := fun q hq => raw_z zu21 (by omega) hq
  have ki2 := ki_init hV hn1 hn0 hu2 hu0
  have ki2r := ki2.1.r0
  have ki2q := ki2.1.q0
  have dg2 := dg hu2 hu0
  obtain ⟨Q0, zQ0⟩ : ∃ n, (u21 * 4294967296 + u0) / v = n := ⟨_, rfl⟩
  obtain ⟨ww, zw⟩ : ∃ n, u21 * 4294967296 + u0 - (u21 * 4294967296 + u0) / v * v = n := ⟨_, rfl⟩
  rw [zw, zQ0] at dg2
  have hZ2 : ∀ q, q = (u21 * 4294967296 + u0) / v → ((u21 * 4294967296) % 18446744073709551616 + u0 - (q * v) % 18446744073709551616) % 18446744073709551616 = ww := fun q hq => raw_z zw (by omega) hq
  have hN : (hi * 18446744073709551616 + lo) * p = (hh + l2) * 18446744073709551616 + x := by
    rw [Int.add_mul, hlx]
    have t : hi * 18446744073709551616 * p = hh * 18446744073709551616 := by rw [← zh0]; grind
    omega
  have fin := quo_end (Q1 := Q1) (Q0 := Q0) (u21 := u21) (w := ww) hp0 (show (0 : Int) < yn by omega) zv0 hN hX (by rw [← zQ1]; exact zu21) (by rw [← zQ0]; exact zw) dg2.2.2
  have hun : 0 ≤ (hh + l2) / n1 * n1 := Int.mul_nonneg ki1q (by omega)
  have hun2 : 0 ≤ u21 / n1 * n1 := Int.mul_nonneg ki2q (by omega)
  refine spec_of Try.func91 rfl Try.ntmps91 rfl (l0 := [(0, .int .u64 hi), (1, .int .u64 lo), (2, .int .u64 (yn : Int))]) rfl ?_
  intro fp
  repeat' first
    | (with_reducible apply J.seq)
    | (with_reducible apply J.region_lit)
    | (with_reducible apply J.ops_nil)
    | (with_reducible apply J.app_cons)
    | (with_reducible apply J.app_nil)
    | (with_reducible apply J.then_)
    | (with_reducible apply J.blk_)
    | (with_reducible apply J.skip)
    | (with_reducible apply J.block)
    | ((with_reducible apply J.q0); exact rfl; focus (first
      | ((with_reducible apply Qv.shlZ); exact rfl; exact rfl; exact hp; omega; (first | with_reducible exact zv | with_reducible exact zh | with_reducible exact zx))
      | ((with_reducible apply Qv.shrZ 4294967296); exact rfl; exact rfl; (decide); (decide); (first | with_reducible exact z1 | with_reducible exact zu1))
      | ((with_reducible apply Qv.andZ); exact rfl; exact rfl; omega; (first | with_reducible exact z0 | with_reducible exact zu0))
      | ((with_reducible apply Qv.shrPZ (s := 64 - s)); exact rfl; exact rfl; omega; exact hp2; omega; with_reducible exact zl)
      | ((with_reducible apply Qv.shrPZ (s := s)); exact rfl; exact rfl; rfl; exact hp; omega; rfl)
      | ((with_reducible apply Qv.orP (s := s) hi); exact rfl; exact rfl; (rw [hp]; omega); omega; (rw [hp]; omega); omega)
      | ((with_reducible apply Qv.mul); exact rfl; exact rfl; (exact wru64 (by omega) (by omega) rfl))
      | ((with_reducible apply Qv.add); exact rfl; exact rfl; (exact wru64 (by omega) (by omega) rfl))
      | ((with_reducible apply Qv.subZ); exact rfl; exact rfl; with_reducible exact hZ _ (by (first | exact ki_exit hV hn1 hn0 hI.1 (by omega) | (have k2 := ki_next hV hn1 hn0 hu hu1 hI.1 (by omega); exact ki_stop hV hn1 hn0 hu1 k2.1 k2.2.2 (by omega)))))
      | ((with_reducible apply Qv.subZ); exact rfl; exact rfl; with_reducible exact hZ2 _ (by (first | exact ki_exit hV hn1 hn0 hJ.1 (by omega) | (have k2 := ki_next hV hn1 hn0 hu2 hu0 hJ.1 (by omega); exact ki_stop hV hn1 hn0 hu0 k2.1 k2.2.2 (by omega)))))
      | ((with_reducible apply Qv.sub); exact rfl; exact rfl; (exact wru64 (by omega) (by omega) rfl))
      | ((with_reducible apply Qv.mulM); exact rfl; exact rfl)
      | ((with_reducible apply Qv.addM); exact rfl; exact rfl)
      | ((with_reducible apply Qv.quoW); exact rfl; exact rfl; omega; omega)
      | ((with_reducible apply Qv.remW); exact rfl; exact rfl; omega; omega)
      | ((with_reducible apply Qv.pure); exact rfl)
      | ((with_reducible apply Qv.fieldAddr); exact rfl; (focus ((try simp only [nl, Nat.reduceAdd, Nat.reduceMul, Int.reduceToNat]); try exact rfl)))
      | ((with_reducible first | apply Qv.indexArr | apply Qv.indexBlk | apply Qv.indexN); exact rfl; exact rfl; (first | decide | omega | (constructor <;> omega)); (focus ((try simp only [nl, Nat.reduceAdd, Nat.reduceMul, Int.reduceToNat]); try exact rfl)))
      | ((with_reducible apply Qv.field1); exact rfl; exact rfl)
      | ((with_reducible apply Qv.fieldN); exact rfl; (focus ((try simp only [nl, Nat.reduceAdd, Nat.reduceMul, Int.reduceToNat]); try exact rfl)))
      | ((with_reducible apply Qv.index1); exact rfl; exact rfl; (first | decide | omega | (constructor <;> omega)); exact rfl)
      | ((with_reducible first | apply Qv.add | apply Qv.sub | apply Qv.mul); exact rfl; exact rfl; (first | exact wr64 (by omega) (by omega) (by (try simp only [Int.reduceAdd, Int.reduceSub, Int.reduceMul]); exact rfl) | exact wru64 (by omega) (by omega) (by (try simp only [Int.reduceAdd, Int.reduceSub, Int.reduceMul]); exact rfl) | exact rfl))
      | ((with_reducible apply Qv.conv); exact rfl; (first | exact wr64 (by omega) (by omega) (by (try simp only [Int.reduceAdd, Int.reduceSub, Int.reduceMul]); exact rfl) | exact wru64 (by omega) (by omega) (by (try simp only [Int.reduceAdd, Int.reduceSub, Int.reduceMul]); exact rfl) | exact rfl))
      | ((with_reducible first | apply Qv.eqlB | apply Qv.neqB); exact rfl; exact rfl)
      | ((with_reducible first | apply Qv.buildA | apply Qv.buildS); exact rfl; (simp only [bfill, nl, Nat.reduceAdd, Nat.reduceMul, Int.reduceToNat]; exact rfl))
      | ((with_reducible apply Qv.quoP); exact rfl; exact rfl; (first | decide | omega); (omega); (first | exact wr64 (by omega) (by omega) rfl | exact wru64 (by omega) (by omega) rfl))
      | ((with_reducible apply Qv.remP); exact rfl; exact rfl; (first | decide | omega); omega)
      | ((with_reducible apply Qv.rem); exact rfl; exact rfl; (first | decide | omega); exact rfl)
      | ((with_reducible apply Qv.quo); exact rfl; exact rfl; (first | decide | omega); (first | exact wr64 (by omega) (by omega) (by (try simp only [Int.reduceAdd, Int.reduceSub, Int.reduceMul]); exact rfl) | exact wru64 (by omega) (by omega) (by (try simp only [Int.reduceAdd, Int.reduceSub, Int.reduceMul]); exact rfl) | exact rfl))
      | ((with_reducible apply Qv.shl); exact rfl; exact rfl; (first | decide | omega); (first | (first | exact wr64 (by omega) (by omega) (by (try simp only [Int.reduceAdd, Int.reduceSub, Int.reduceMul]); exact rfl) | exact wru64 (by omega) (by omega) (by (try simp only [Int.reduceAdd, Int.reduceSub, Int.reduceMul]); exact rfl) | exact rfl) | exact rfl))
      | ((with_reducible apply Qv.shr); exact rfl; exact rfl; (first | decide | omega); exact rfl)
      | ((with_reducible apply Qv.lenS); exact rfl)
      | ((with_reducible apply Qv.lenStr); exact rfl)
      | ((with_reducible apply Qv.capS); exact rfl)
      | ((with_reducible apply Qv.max); exact rfl; exact rfl)
      | ((with_reducible apply Qv.min); exact rfl; exact rfl)))
    | ((with_reducible apply J.q1); exact rfl; focus (first
      | ((with_reducible apply Qr.load1); exact rfl; (repeat (first | with_reducible exact In.here | with_reducible apply In.there)); exact rfl)
      | ((with_reducible apply Qr.loadN); exact rfl; (repeat (first | with_reducible exact In.here | with_reducible apply In.there)); (focus ((try simp only [nl, Nat.reduceAdd, Nat.reduceMul, Int.reduceToNat]); try exact rfl)); (focus (first | (simp only [nl, Nat.reduceAdd, Nat.reduceMul, Int.reduceToNat]; done) | exact rfl)))
      | ((with_reducible apply Qr.row1); exact rfl; (repeat (first | with_reducible exact In.here | with_reducible apply In.there)); exact rfl)
      | ((with_reducible apply Qr.rowN); exact rfl; (repeat (first | with_reducible exact In.here | with_reducible apply In.there)); (focus ((try simp only [nl, Nat.reduceAdd, Nat.reduceMul, Int.reduceToNat]); try exact rfl)); exact rfl)
      | ((with_reducible apply Qr.lenRow); exact rfl; (repeat (first | with_reducible exact In.here | with_reducible apply In.there)))))
    | ((with_reducible apply J.guard_on); exact rfl; exact rfl)
    | ((with_reducible apply J.guard_off); exact rfl; exact rfl; exact rfl; exact rfl)
    | ((with_reducible apply J.guard_off_none); exact rfl; exact rfl; exact rfl)
    | ((with_reducible apply J.gsplit); exact rfl; exact rfl)
    | ((with_reducible apply J.list); focus (first
      | ((with_reducible apply J.givesP (lz_s _ s)); exact rfl; exact rfl; exact ⟨by omega, hs⟩)
      | ((with_reducible apply J.buildSlice); exact rfl; exact rfl; exact rfl; exact rfl; exact rfl; (simp only [bfill, rep, List.replicate_succ, List.replicate_zero, List.flatten_cons, List.flatten_nil, nl, Nat.reduceAdd, Nat.reduceMul, Int.reduceToNat]; exact rfl); intro _)
      | ((with_reducible apply J.buildSlice0); exact rfl; intro _)
      | ((with_reducible apply J.append); exact rfl; exact rfl; (repeat (first | with_reducible exact Out.here | with_reducible apply Out.there)); exact rfl; (repeat (first | with_reducible exact In.here | with_reducible apply In.there)); (focus ((try simp only [nl, Nat.reduceAdd, Nat.reduceMul, Int.reduceToNat]); try exact rfl)); exact rfl; exact rfl; exact rfl; exact rfl; exact rfl; (first | decide | (simp only [maxLen]; omega) | omega); (first | decide | (simp only [maxLen]; omega) | omega); intro _)
      | ((with_reducible apply J.appendNil); exact rfl; exact rfl; exact rfl; (repeat (first | with_reducible exact In.here | with_reducible apply In.there)); (focus ((try simp only [nl, Nat.reduceAdd, Nat.reduceMul, Int.reduceToNat]); try exact rfl)); exact rfl; exact rfl; exact rfl; exact rfl; exact rfl; (first | decide | (simp only [maxLen]; omega) | omega); (first | decide | (simp only [maxLen]; omega) | omega); intro _)
      | ((with_reducible apply J.boxN); exact rfl; exact rfl; intro _)
      | ((with_reducible apply J.box1); exact rfl; exact rfl; exact rfl; intro _)
      | ((with_reducible apply J.alloc); exact rfl; intro _)
      | ((with_reducible apply J.storeN); exact rfl; exact rfl; (repeat (first | with_reducible exact Upd.here | with_reducible apply Upd.there)); (focus ((try simp only [nl, Nat.reduceAdd, Nat.reduceMul, Int.reduceToNat]); try exact rfl)); (focus (first | (simp only [nl, Nat.reduceAdd, Nat.reduceMul, Int.reduceToNat]; done) | exact rfl)); (focus (first | (simp only [nl, Nat.reduceAdd, Nat.reduceMul, Int.reduceToNat]; done) | (simp only [nl, Nat.reduceAdd, Nat.reduceMul, Int.reduceToNat]; omega) | decide)); (first | (with_reducible exact wvs_ones _ _) | exact rfl))
      | ((with_reducible apply J.store1); exact rfl; exact rfl; exact rfl; (repeat (first | with_reducible exact Upd.here | with_reducible apply Upd.there)); (focus ((try simp only [nl, Nat.reduceAdd, Nat.reduceMul, Int.reduceToNat]); try exact rfl)); (first | decide | (simp only [nl, Nat.reduceAdd, Nat.reduceMul, Int.reduceToNat]; omega)))))
    | ((with_reducible apply J.cond_true); exact rfl)
    | ((with_reducible apply J.cond_false); exact rfl)
    | ((with_reducible apply J.cond); exact rfl)
    | (intro h; exfalso; (first | (simp at h; done) | omega))
    | (intro h; (try simp only [decide_eq_true_eq, decide_eq_false_iff_not, beq_iff_eq, beq_eq_false_iff_ne, Bool.not_eq_true', Bool.not_eq_false', bne_iff_ne, bne_eq_false_iff_eq, ne_eq, ge_iff_le, gt_iff_lt] at h))
    | (with_reducible apply J.cret)
    | ((with_reducible apply J.ret); exact rfl; exact rfl; (repeat (first | (with_reducible exact Res.nil) | ((with_reducible apply Res.tmp); exact rfl) | ((with_reducible apply Res.cell1); exact rfl; (repeat (first | with_reducible exact In.here | with_reducible apply In.there)); exact rfl) | ((with_reducible apply Res.cellN); exact rfl; (repeat (first | with_reducible exact In.here | with_reducible apply In.there)); (focus ((try simp only [nl, Nat.reduceAdd, Nat.reduceMul, Int.reduceToNat]); try exact rfl)); (focus (first | (simp only [nl, Nat.reduceAdd, Nat.reduceMul, Int.reduceToNat]; done) | exact rfl))))); exact rfl)
    | ((with_reducible apply J.ret_normal); exact rfl; exact rfl; (repeat (first | (with_reducible exact Res.nil) | ((with_reducible apply Res.tmp); exact rfl) | ((with_reducible apply Res.cell1); exact rfl; (repeat (first | with_reducible exact In.here | with_reducible apply In.there)); exact rfl) | ((with_reducible apply Res.cellN); exact rfl; (repeat (first | with_reducible exact In.here | with_reducible apply In.there)); (focus ((try simp only [nl, Nat.reduceAdd, Nat.reduceMul, Int.reduceToNat]); try exact rfl)); (focus (first | (simp only [nl, Nat.reduceAdd, Nat.reduceMul, Int.reduceToNat]; done) | exact rfl))))); exact rfl)
    | (with_reducible apply J.gave')
    | ((with_reducible apply J.kept'); rotate_left; (repeat (first | (with_reducible exact Outs.nil) | ((with_reducible apply Outs.cons); (repeat (first | with_reducible exact Out.here | with_reducible apply Out.there))))))
    | (with_reducible apply J.exit)
    | (with_reducible apply J.then_ret)
    | (with_reducible apply J.then_exit)
    | (with_reducible apply J.then_panic)
    | (with_reducible apply J.blk_ret)
    | (with_reducible apply J.blk_panic)
    | (with_reducible apply J.blk_exit)
    | ((with_reducible apply J.blk_past); exact rfl)
    | ((with_reducible apply J.draw (id := 6) [0, 0, 3, 0, 0, 24, 7, 127] (.p 0 (.p 1 (.p 2 (.p 3 (.p 4 (.p 5 (.p 6 (.p 7 .nil)))))))) (by kernel_rfl) ?_ (by kernel_rfl) ?_); (repeat (with_reducible first | exact PanicFree.body | apply PanicFree.then_ | apply PanicFree.blk)))
    | ((with_reducible apply J.pl0); exact rfl; (first | exact Gd.none | ((with_reducible apply Gd.on); exact rfl; exact rfl)); exact rfl; focus (first
      | ((with_reducible apply Qv.shlZ); exact rfl; exact rfl; exact hp; omega; (first | with_reducible exact zv | with_reducible exact zh | with_reducible exact zx))
      | ((with_reducible apply Qv.shrZ 4294967296); exact rfl; exact rfl; (decide); (decide); (first | with_reducible exact z1 | with_reducible exact zu1))
      | ((with_reducible apply Qv.andZ); exact rfl; exact rfl; omega; (first | with_reducible exact z0 | with_reducible exact zu0))
      | ((with_reducible apply Qv.shrPZ (s := 64 - s)); exact rfl; exact rfl; omega; exact hp2; omega; with_reducible exact zl)
      | ((with_reducible apply Qv.shrPZ (s := s)); exact rfl; exact rfl; rfl; exact hp; omega; rfl)
      | ((with_reducible apply Qv.orP (s := s) hi); exact rfl; exact rfl; (rw [hp]; omega); omega; (rw [hp]; omega); omega)
      | ((with_reducible apply Qv.mul); exact rfl; exact rfl; (exact wru64 (by omega) (by omega) rfl))
      | ((with_reducible apply Qv.add); exact rfl; exact rfl; (exact wru64 (by omega) (by omega) rfl))
      | ((with_reducible apply Qv.subZ); exact rfl; exact rfl; with_reducible exact hZ _ (by (first | exact ki_exit hV hn1 hn0 hI.1 (by omega) | (have k2 := ki_next hV hn1 hn0 hu hu1 hI.1 (by omega); exact ki_stop hV hn1 hn0 hu1 k2.1 k2.2.2 (by omega)))))
      | ((with_reducible apply Qv.subZ); exact rfl; exact rfl; with_reducible exact hZ2 _ (by (first | exact ki_exit hV hn1 hn0 hJ.1 (by omega) | (have k2 := ki_next hV hn1 hn0 hu2 hu0 hJ.1 (by omega); exact ki_stop hV hn1 hn0 hu0 k2.1 k2.2.2 (by omega)))))
      | ((with_reducible apply Qv.sub); exact rfl; exact rfl; (exact wru64 (by omega) (by omega) rfl))
      | ((with_reducible apply Qv.mulM); exact rfl; exact rfl)
      | ((with_reducible apply Qv.addM); exact rfl; exact rfl)
      | ((with_reducible apply Qv.quoW); exact rfl; exact rfl; omega; omega)
      | ((with_reducible apply Qv.remW); exact rfl; exact rfl; omega; omega)
      | ((with_reducible apply Qv.pure); exact rfl)
      | ((with_reducible apply Qv.fieldAddr); exact rfl; (focus ((try simp only [nl, Nat.reduceAdd, Nat.reduceMul, Int.reduceToNat]); try exact rfl)))
      | ((with_reducible first | apply Qv.indexArr | apply Qv.indexBlk | apply Qv.indexN); exact rfl; exact rfl; (first | decide | omega | (constructor <;> omega)); (focus ((try simp only [nl, Nat.reduceAdd, Nat.reduceMul, Int.reduceToNat]); try exact rfl)))
      | ((with_reducible apply Qv.field1); exact rfl; exact rfl)
      | ((with_reducible apply Qv.fieldN); exact rfl; (focus ((try simp only [nl, Nat.reduceAdd, Nat.reduceMul, Int.reduceToNat]); try exact rfl)))
      | ((with_reducible apply Qv.index1); exact rfl; exact rfl; (first | decide | omega | (constructor <;> omega)); exact rfl)
      | ((with_reducible first | apply Qv.add | apply Qv.sub | apply Qv.mul); exact rfl; exact rfl; (first | exact wr64 (by omega) (by omega) (by (try simp only [Int.reduceAdd, Int.reduceSub, Int.reduceMul]); exact rfl) | exact wru64 (by omega) (by omega) (by (try simp only [Int.reduceAdd, Int.reduceSub, Int.reduceMul]); exact rfl) | exact rfl))
      | ((with_reducible apply Qv.conv); exact rfl; (first | exact wr64 (by omega) (by omega) (by (try simp only [Int.reduceAdd, Int.reduceSub, Int.reduceMul]); exact rfl) | exact wru64 (by omega) (by omega) (by (try simp only [Int.reduceAdd, Int.reduceSub, Int.reduceMul]); exact rfl) | exact rfl))
      | ((with_reducible first | apply Qv.eqlB | apply Qv.neqB); exact rfl; exact rfl)
      | ((with_reducible first | apply Qv.buildA | apply Qv.buildS); exact rfl; (simp only [bfill, nl, Nat.reduceAdd, Nat.reduceMul, Int.reduceToNat]; exact rfl))
      | ((with_reducible apply Qv.quoP); exact rfl; exact rfl; (first | decide | omega); (omega); (first | exact wr64 (by omega) (by omega) rfl | exact wru64 (by omega) (by omega) rfl))
      | ((with_reducible apply Qv.remP); exact rfl; exact rfl; (first | decide | omega); omega)
      | ((with_reducible apply Qv.rem); exact rfl; exact rfl; (first | decide | omega); exact rfl)
      | ((with_reducible apply Qv.quo); exact rfl; exact rfl; (first | decide | omega); (first | exact wr64 (by omega) (by omega) (by (try simp only [Int.reduceAdd, Int.reduceSub, Int.reduceMul]); exact rfl) | exact wru64 (by omega) (by omega) (by (try simp only [Int.reduceAdd, Int.reduceSub, Int.reduceMul]); exact rfl) | exact rfl))
      | ((with_reducible apply Qv.shl); exact rfl; exact rfl; (first | decide | omega); (first | (first | exact wr64 (by omega) (by omega) (by (try simp only [Int.reduceAdd, Int.reduceSub, Int.reduceMul]); exact rfl) | exact wru64 (by omega) (by omega) (by (try simp only [Int.reduceAdd, Int.reduceSub, Int.reduceMul]); exact rfl) | exact rfl) | exact rfl))
      | ((with_reducible apply Qv.shr); exact rfl; exact rfl; (first | decide | omega); exact rfl)
      | ((with_reducible apply Qv.lenS); exact rfl)
      | ((with_reducible apply Qv.lenStr); exact rfl)
      | ((with_reducible apply Qv.capS); exact rfl)
      | ((with_reducible apply Qv.max); exact rfl; exact rfl)
      | ((with_reducible apply Qv.min); exact rfl; exact rfl)))
    | ((with_reducible apply J.pl0_off); exact rfl; ((with_reducible apply Gd.off); exact rfl; exact rfl; exact rfl); exact rfl)
    | ((with_reducible apply J.pl1); exact rfl; (first | exact Gd.none | ((with_reducible apply Gd.on); exact rfl; exact rfl)); exact rfl; focus (first
      | ((with_reducible apply Qr.load1); exact rfl; (repeat (first | with_reducible exact In.here | with_reducible apply In.there)); exact rfl)
      | ((with_reducible apply Qr.loadN); exact rfl; (repeat (first | with_reducible exact In.here | with_reducible apply In.there)); (focus ((try simp only [nl, Nat.reduceAdd, Nat.reduceMul, Int.reduceToNat]); try exact rfl)); (focus (first | (simp only [nl, Nat.reduceAdd, Nat.reduceMul, Int.reduceToNat]; done) | exact rfl)))
      | ((with_reducible apply Qr.row1); exact rfl; (repeat (first | with_reducible exact In.here | with_reducible apply In.there)); exact rfl)
      | ((with_reducible apply Qr.rowN); exact rfl; (repeat (first | with_reducible exact In.here | with_reducible apply In.there)); (focus ((try simp only [nl, Nat.reduceAdd, Nat.reduceMul, Int.reduceToNat]); try exact rfl)); exact rfl)
      | ((with_reducible apply Qr.lenRow); exact rfl; (repeat (first | with_reducible exact In.here | with_reducible apply In.there)))))
    | ((with_reducible apply J.pl1_off); exact rfl; ((with_reducible apply Gd.off); exact rfl; exact rfl; exact rfl); exact rfl)
    | ((with_reducible apply J.pl2); exact rfl; (first | exact Gd.none | ((with_reducible apply Gd.on); exact rfl; exact rfl)); (repeat (first | (with_reducible exact PendF.nil) | ((with_reducible apply PendF.keep); exact rfl) | ((with_reducible apply PendF.gone); exact rfl))); focus (first
      | ((with_reducible apply J.givesP (lz_s _ s)); exact rfl; exact rfl; exact ⟨by omega, hs⟩)
      | ((with_reducible apply J.buildSlice); exact rfl; exact rfl; exact rfl; exact rfl; exact rfl; (simp only [bfill, rep, List.replicate_succ, List.replicate_zero, List.flatten_cons, List.flatten_nil, nl, Nat.reduceAdd, Nat.reduceMul, Int.reduceToNat]; exact rfl); intro _)
      | ((with_reducible apply J.buildSlice0); exact rfl; intro _)
      | ((with_reducible apply J.append); exact rfl; exact rfl; (repeat (first | with_reducible exact Out.here | with_reducible apply Out.there)); exact rfl; (repeat (first | with_reducible exact In.here | with_reducible apply In.there)); (focus ((try simp only [nl, Nat.reduceAdd, Nat.reduceMul, Int.reduceToNat]); try exact rfl)); exact rfl; exact rfl; exact rfl; exact rfl; exact rfl; (first | decide | (simp only [maxLen]; omega) | omega); (first | decide | (simp only [maxLen]; omega) | omega); intro _)
      | ((with_reducible apply J.appendNil); exact rfl; exact rfl; exact rfl; (repeat (first | with_reducible exact In.here | with_reducible apply In.there)); (focus ((try simp only [nl, Nat.reduceAdd, Nat.reduceMul, Int.reduceToNat]); try exact rfl)); exact rfl; exact rfl; exact rfl; exact rfl; exact rfl; (first | decide | (simp only [maxLen]; omega) | omega); (first | decide | (simp only [maxLen]; omega) | omega); intro _)
      | ((with_reducible apply J.boxN); exact rfl; exact rfl; intro _)
      | ((with_reducible apply J.box1); exact rfl; exact rfl; exact rfl; intro _)
      | ((with_reducible apply J.alloc); exact rfl; intro _)
      | ((with_reducible apply J.storeN); exact rfl; exact rfl; (repeat (first | with_reducible exact Upd.here | with_reducible apply Upd.there)); (focus ((try simp only [nl, Nat.reduceAdd, Nat.reduceMul, Int.reduceToNat]); try exact rfl)); (focus (first | (simp only [nl, Nat.reduceAdd, Nat.reduceMul, Int.reduceToNat]; done) | exact rfl)); (focus (first | (simp only [nl, Nat.reduceAdd, Nat.reduceMul, Int.reduceToNat]; done) | (simp only [nl, Nat.reduceAdd, Nat.reduceMul, Int.reduceToNat]; omega) | decide)); (first | (with_reducible exact wvs_ones _ _) | exact rfl))
      | ((with_reducible apply J.store1); exact rfl; exact rfl; exact rfl; (repeat (first | with_reducible exact Upd.here | with_reducible apply Upd.there)); (focus ((try simp only [nl, Nat.reduceAdd, Nat.reduceMul, Int.reduceToNat]); try exact rfl)); (first | decide | (simp only [nl, Nat.reduceAdd, Nat.reduceMul, Int.reduceToNat]; omega)))))
    | ((with_reducible apply J.pl2_off); exact rfl; ((with_reducible apply Gd.off); exact rfl; exact rfl; exact rfl); exact rfl; (repeat (first | (with_reducible exact PendF.nil) | ((with_reducible apply PendF.keep); exact rfl) | ((with_reducible apply PendF.gone); exact rfl))))
    | ((with_reducible apply J.pl2_off_none); exact rfl; ((with_reducible apply Gd.off); exact rfl; exact rfl; exact rfl); (repeat (first | (with_reducible exact PendF.nil) | ((with_reducible apply PendF.keep); exact rfl) | ((with_reducible apply PendF.gone); exact rfl))))
    | (with_reducible apply J.owe_nil)
    | ((with_reducible apply J.owe); exact rfl; (first | exact Gd.none | ((with_reducible apply Gd.on); exact rfl; exact rfl)); focus (first
      | ((with_reducible apply Qr.load1); exact rfl; (repeat (first | with_reducible exact In.here | with_reducible apply In.there)); exact rfl)
      | ((with_reducible apply Qr.loadN); exact rfl; (repeat (first | with_reducible exact In.here | with_reducible apply In.there)); (focus ((try simp only [nl, Nat.reduceAdd, Nat.reduceMul, Int.reduceToNat]); try exact rfl)); (focus (first | (simp only [nl, Nat.reduceAdd, Nat.reduceMul, Int.reduceToNat]; done) | exact rfl)))
      | ((with_reducible apply Qr.row1); exact rfl; (repeat (first | with_reducible exact In.here | with_reducible apply In.there)); exact rfl)
      | ((with_reducible apply Qr.rowN); exact rfl; (repeat (first | with_reducible exact In.here | with_reducible apply In.there)); (focus ((try simp only [nl, Nat.reduceAdd, Nat.reduceMul, Int.reduceToNat]); try exact rfl)); exact rfl)
      | ((with_reducible apply Qr.lenRow); exact rfl; (repeat (first | with_reducible exact In.here | with_reducible apply In.there)))))
    | ((with_reducible apply J.owe_off); exact rfl; ((with_reducible apply Gd.off); exact rfl; exact rfl; exact rfl))
    | ((with_reducible first | apply J.psplit0 | apply J.psplit1 | apply J.psplit2); exact rfl; exact rfl; exact rfl)
    | (with_reducible apply J.pl_nil)
    | (with_reducible exact J.pl_none)
  any_goals
    apply J.loopI (σ := Int × Int) (I := fun q => (KI (hh + l2) v n1 n0 u1 q.1 q.2 ∧ q.2 < 4294967296)) (L := fun q => [(2, .int .u64 v), (8, .int .u64 (s : Int)), (9, .int .u64 n1), (10, .int .u64 n0), (11, .int .u64 (hh + l2)), (13, .int .u64 u1), (14, .int .u64 u0), (15, .int .u64 q.1), (16, .int .u64 q.2)]) (HH := fun q => []) (m := fun q => q.1.toNat) (s0 := ((hh + l2) / n1, hh + l2 - (hh + l2) / n1 * n1))
    · ((try dsimp only); (exact ⟨ki1.1, by omega⟩))
    · ((try dsimp only); repeat (first | exact sub.nil _ | (refine sub.consE rfl ?_ ?_; (first | with_reducible rfl | (fail) | rfl))))
    · ((try dsimp only); (repeat (first | (with_reducible exact Outs.nil) | ((with_reducible apply Outs.cons); (repeat (first | with_reducible exact Out.here | with_reducible apply Out.there))))))
    rintro ⟨q, r⟩ hI
    try dsimp only at hI ⊢
    have kq0 := hI.1.q0
    have kq1 := hI.1.q1
    have kr0 := hI.1.r0
    have pb : 4294967296 ≤ q ∨ (0 ≤ q * n0 ∧ q * n0 ≤ 18446744065119617025) := by
      rcases Int.lt_or_le q 4294967296 with z | z
      · exact .inr (mulB ⟨by omega, by omega⟩ ⟨by omega, by omega⟩)
      · exact .inl z
    have pz : 1 ≤ q ∨ q * n0 = 0 := by
      rcases Int.lt_or_le 0 q with z | z
      · exact .inl z
      · have z2 : q = 0 := by omega
        subst z2
        exact .inr (Int.zero_mul _)
    repeat' first
      | (with_reducible apply J.seq)
      | (with_reducible apply J.region_lit)
      | (with_reducible apply J.ops_nil)
      | (with_reducible apply J.app_cons)
      | (with_reducible apply J.app_nil)
      | (with_reducible apply J.then_)
      | (with_reducible apply J.blk_)
      | (with_reducible apply J.skip)
      | (with_reducible apply J.block)
      | ((with_reducible apply J.q0); exact rfl; focus (first
        | ((with_reducible apply Qv.shlZ); exact rfl; exact rfl; exact hp; omega; (first | with_reducible exact zv | with_reducible exact zh | with_reducible exact zx))
        | ((with_reducible apply Qv.shrZ 4294967296); exact rfl; exact rfl; (decide); (decide); (first | with_reducible exact z1 | with_reducible exact zu1))
        | ((with_reducible apply Qv.andZ); exact rfl; exact rfl; omega; (first | with_reducible exact z0 | with_reducible exact zu0))
        | ((with_reducible apply Qv.shrPZ (s := 64 - s)); exact rfl; exact rfl; omega; exact hp2; omega; with_reducible exact zl)
        | ((with_reducible apply Qv.shrPZ (s := s)); exact rfl; exact rfl; rfl; exact hp; omega; rfl)
        | ((with_reducible apply Qv.orP (s := s) hi); exact rfl; exact rfl; (rw [hp]; omega); omega; (rw [hp]; omega); omega)
        | ((with_reducible apply Qv.mul); exact rfl; exact rfl; (exact wru64 (by omega) (by omega) rfl))
        | ((with_reducible apply Qv.add); exact rfl; exact rfl; (exact wru64 (by omega) (by omega) rfl))
        | ((with_reducible apply Qv.subZ); exact rfl; exact rfl; with_reducible exact hZ _ (by (first | exact ki_exit hV hn1 hn0 hI.1 (by omega) | (have k2 := ki_next hV hn1 hn0 hu hu1 hI.1 (by omega); exact ki_stop hV hn1 hn0 hu1 k2.1 k2.2.2 (by omega)))))
        | ((with_reducible apply Qv.subZ); exact rfl; exact rfl; with_reducible exact hZ2 _ (by (first | exact ki_exit hV hn1 hn0 hJ.1 (by omega) | (have k2 := ki_next hV hn1 hn0 hu2 hu0 hJ.1 (by omega); exact ki_stop hV hn1 hn0 hu0 k2.1 k2.2.2 (by omega)))))
        | ((with_reducible apply Qv.sub); exact rfl; exact rfl; (exact wru64 (by omega) (by omega) rfl))
        | ((with_reducible apply Qv.mulM); exact rfl; exact rfl)
        | ((with_reducible apply Qv.addM); exact rfl; exact rfl)
        | ((with_reducible apply Qv.quoW); exact rfl; exact rfl; omega; omega)
        | ((with_reducible apply Qv.remW); exact rfl; exact rfl; omega; omega)
        | ((with_reducible apply Qv.pure); exact rfl)
        | ((with_reducible apply Qv.fieldAddr); exact rfl; (focus ((try simp only [nl, Nat.reduceAdd, Nat.reduceMul, Int.reduceToNat]); try exact rfl)))
        | ((with_reducible first | apply Qv.indexArr | apply Qv.indexBlk | apply Qv.indexN); exact rfl; exact rfl; (first | decide | omega | (constructor <;> omega)); (focus ((try simp only [nl, Nat.reduceAdd, Nat.reduceMul, Int.reduceToNat]); try exact rfl)))
        | ((with_reducible apply Qv.field1); exact rfl; exact rfl)
        | ((with_reducible apply Qv.fieldN); exact rfl; (focus ((try simp only [nl, Nat.reduceAdd, Nat.reduceMul, Int.reduceToNat]); try exact rfl)))
        | ((with_reducible apply Qv.index1); exact rfl; exact rfl; (first | decide | omega | (constructor <;> omega)); exact rfl)
        | ((with_reducible first | apply Qv.add | apply Qv.sub | apply Qv.mul); exact rfl; exact rfl; (first | exact wr64 (by omega) (by omega) (by (try simp only [Int.reduceAdd, Int.reduceSub, Int.reduceMul]); exact rfl) | exact wru64 (by omega) (by omega) (by (try simp only [Int.reduceAdd, Int.reduceSub, Int.reduceMul]); exact rfl) | exact rfl))
        | ((with_reducible apply Qv.conv); exact rfl; (first | exact wr64 (by omega) (by omega) (by (try simp only [Int.reduceAdd, Int.reduceSub, Int.reduceMul]); exact rfl) | exact wru64 (by omega) (by omega) (by (try simp only [Int.reduceAdd, Int.reduceSub, Int.reduceMul]); exact rfl) | exact rfl))
        | ((with_reducible first | apply Qv.eqlB | apply Qv.neqB); exact rfl; exact rfl)
        | ((with_reducible first | apply Qv.buildA | apply Qv.buildS); exact rfl; (simp only [bfill, nl, Nat.reduceAdd, Nat.reduceMul, Int.reduceToNat]; exact rfl))
        | ((with_reducible apply Qv.quoP); exact rfl; exact rfl; (first | decide | omega); (omega); (first | exact wr64 (by omega) (by omega) rfl | exact wru64 (by omega) (by omega) rfl))
        | ((with_reducible apply Qv.remP); exact rfl; exact rfl; (first | decide | omega); omega)
        | ((with_reducible apply Qv.rem); exact rfl; exact rfl; (first | decide | omega); exact rfl)
        | ((with_reducible apply Qv.quo); exact rfl; exact rfl; (first | decide | omega); (first | exact wr64 (by omega) (by omega) (by (try simp only [Int.reduceAdd, Int.reduceSub, Int.reduceMul]); exact rfl) | exact wru64 (by omega) (by omega) (by (try simp only [Int.reduceAdd, Int.reduceSub, Int.reduceMul]); exact rfl) | exact rfl))
        | ((with_reducible apply Qv.shl); exact rfl; exact rfl; (first | decide | omega); (first | (first | exact wr64 (by omega) (by omega) (by (try simp only [Int.reduceAdd, Int.reduceSub, Int.reduceMul]); exact rfl) | exact wru64 (by omega) (by omega) (by (try simp only [Int.reduceAdd, Int.reduceSub, Int.reduceMul]); exact rfl) | exact rfl) | exact rfl))
        | ((with_reducible apply Qv.shr); exact rfl; exact rfl; (first | decide | omega); exact rfl)
        | ((with_reducible apply Qv.lenS); exact rfl)
        | ((with_reducible apply Qv.lenStr); exact rfl)
        | ((with_reducible apply Qv.capS); exact rfl)
        | ((with_reducible apply Qv.max); exact rfl; exact rfl)
        | ((with_reducible apply Qv.min); exact rfl; exact rfl)))
      | ((with_reducible apply J.q1); exact rfl; focus (first
        | ((with_reducible apply Qr.load1); exact rfl; (repeat (first | with_reducible exact In.here | with_reducible apply In.there)); exact rfl)
        | ((with_reducible apply Qr.loadN); exact rfl; (repeat (first | with_reducible exact In.here | with_reducible apply In.there)); (focus ((try simp only [nl, Nat.reduceAdd, Nat.reduceMul, Int.reduceToNat]); try exact rfl)); (focus (first | (simp only [nl, Nat.reduceAdd, Nat.reduceMul, Int.reduceToNat]; done) | exact rfl)))
        | ((with_reducible apply Qr.row1); exact rfl; (repeat (first | with_reducible exact In.here | with_reducible apply In.there)); exact rfl)
        | ((with_reducible apply Qr.rowN); exact rfl; (repeat (first | with_reducible exact In.here | with_reducible apply In.there)); (focus ((try simp only [nl, Nat.reduceAdd, Nat.reduceMul, Int.reduceToNat]); try exact rfl)); exact rfl)
        | ((with_reducible apply Qr.lenRow); exact rfl; (repeat (first | with_reducible exact In.here | with_reducible apply In.there)))))
      | ((with_reducible apply J.guard_on); exact rfl; exact rfl)
      | ((with_reducible apply J.guard_off); exact rfl; exact rfl; exact rfl; exact rfl)
      | ((with_reducible apply J.guard_off_none); exact rfl; exact rfl; exact rfl)
      | ((with_reducible apply J.gsplit); exact rfl; exact rfl)
      | ((with_reducible apply J.list); focus (first
        | ((with_reducible apply J.givesP (lz_s _ s)); exact rfl; exact rfl; exact ⟨by omega, hs⟩)
        | ((with_reducible apply J.buildSlice); exact rfl; exact rfl; exact rfl; exact rfl; exact rfl; (simp only [bfill, rep, List.replicate_succ, List.replicate_zero, List.flatten_cons, List.flatten_nil, nl, Nat.reduceAdd, Nat.reduceMul, Int.reduceToNat]; exact rfl); intro _)
        | ((with_reducible apply J.buildSlice0); exact rfl; intro _)
        | ((with_reducible apply J.append); exact rfl; exact rfl; (repeat (first | with_reducible exact Out.here | with_reducible apply Out.there)); exact rfl; (repeat (first | with_reducible exact In.here | with_reducible apply In.there)); (focus ((try simp only [nl, Nat.reduceAdd, Nat.reduceMul, Int.reduceToNat]); try exact rfl)); exact rfl; exact rfl; exact rfl; exact rfl; exact rfl; (first | decide | (simp only [maxLen]; omega) | omega); (first | decide | (simp only [maxLen]; omega) | omega); intro _)
        | ((with_reducible apply J.appendNil); exact rfl; exact rfl; exact rfl; (repeat (first | with_reducible exact In.here | with_reducible apply In.there)); (focus ((try simp only [nl, Nat.reduceAdd, Nat.reduceMul, Int.reduceToNat]); try exact rfl)); exact rfl; exact rfl; exact rfl; exact rfl; exact rfl; (first | decide | (simp only [maxLen]; omega) | omega); (first | decide | (simp only [maxLen]; omega) | omega); intro _)
        | ((with_reducible apply J.boxN); exact rfl; exact rfl; intro _)
        | ((with_reducible apply J.box1); exact rfl; exact rfl; exact rfl; intro _)
        | ((with_reducible apply J.alloc); exact rfl; intro _)
        | ((with_reducible apply J.storeN); exact rfl; exact rfl; (repeat (first | with_reducible exact Upd.here | with_reducible apply Upd.there)); (focus ((try simp only [nl, Nat.reduceAdd, Nat.reduceMul, Int.reduceToNat]); try exact rfl)); (focus (first | (simp only [nl, Nat.reduceAdd, Nat.reduceMul, Int.reduceToNat]; done) | exact rfl)); (focus (first | (simp only [nl, Nat.reduceAdd, Nat.reduceMul, Int.reduceToNat]; done) | (simp only [nl, Nat.reduceAdd, Nat.reduceMul, Int.reduceToNat]; omega) | decide)); (first | (with_reducible exact wvs_ones _ _) | exact rfl))
        | ((with_reducible apply J.store1); exact rfl; exact rfl; exact rfl; (repeat (first | with_reducible exact Upd.here | with_reducible apply Upd.there)); (focus ((try simp only [nl, Nat.reduceAdd, Nat.reduceMul, Int.reduceToNat]); try exact rfl)); (first | decide | (simp only [nl, Nat.reduceAdd, Nat.reduceMul, Int.reduceToNat]; omega)))))
      | ((with_reducible apply J.cond_true); exact rfl)
      | ((with_reducible apply J.cond_false); exact rfl)
      | ((with_reducible apply J.cond); exact rfl)
      | (intro h; exfalso; (first | (simp at h; done) | omega))
      | (intro h; (try simp only [decide_eq_true_eq, decide_eq_false_iff_not, beq_iff_eq, beq_eq_false_iff_ne, Bool.not_eq_true', Bool.not_eq_false', bne_iff_ne, bne_eq_false_iff_eq, ne_eq, ge_iff_le, gt_iff_lt] at h))
      | (with_reducible apply J.cret)
      | ((with_reducible apply J.ret); exact rfl; exact rfl; (repeat (first | (with_reducible exact Res.nil) | ((with_reducible apply Res.tmp); exact rfl) | ((with_reducible apply Res.cell1); exact rfl; (repeat (first | with_reducible exact In.here | with_reducible apply In.there)); exact rfl) | ((with_reducible apply Res.cellN); exact rfl; (repeat (first | with_reducible exact In.here | with_reducible apply In.there)); (focus ((try simp only [nl, Nat.reduceAdd, Nat.reduceMul, Int.reduceToNat]); try exact rfl)); (focus (first | (simp only [nl, Nat.reduceAdd, Nat.reduceMul, Int.reduceToNat]; done) | exact rfl))))); exact rfl)
      | ((with_reducible apply J.ret_normal); exact rfl; exact rfl; (repeat (first | (with_reducible exact Res.nil) | ((with_reducible apply Res.tmp); exact rfl) | ((with_reducible apply Res.cell1); exact rfl; (repeat (first | with_reducible exact In.here | with_reducible apply In.there)); exact rfl) | ((with_reducible apply Res.cellN); exact rfl; (repeat (first | with_reducible exact In.here | with_reducible apply In.there)); (focus ((try simp only [nl, Nat.reduceAdd, Nat.reduceMul, Int.reduceToNat]); try exact rfl)); (focus (first | (simp only [nl, Nat.reduceAdd, Nat.reduceMul, Int.reduceToNat]; done) | exact rfl))))); exact rfl)
      | (with_reducible apply J.gave')
      | ((with_reducible apply J.kept'); rotate_left; (repeat (first | (with_reducible exact Outs.nil) | ((with_reducible apply Outs.cons); (repeat (first | with_reducible exact Out.here | with_reducible apply Out.there))))))
      | (with_reducible apply J.exit)
      | (with_reducible apply J.then_ret)
      | (with_reducible apply J.then_exit)
      | (with_reducible apply J.then_panic)
      | (with_reducible apply J.blk_ret)
      | (with_reducible apply J.blk_panic)
      | (with_reducible apply J.blk_exit)
      | ((with_reducible apply J.blk_past); exact rfl)
      | ((with_reducible apply J.draw (id := 6) [0, 0, 3, 0, 0, 24, 7, 127] (.p 0 (.p 1 (.p 2 (.p 3 (.p 4 (.p 5 (.p 6 (.p 7 .nil)))))))) (by kernel_rfl) ?_ (by kernel_rfl) ?_); (repeat (with_reducible first | exact PanicFree.body | apply PanicFree.then_ | apply PanicFree.blk)))
      | ((with_reducible apply J.pl0); exact rfl; (first | exact Gd.none | ((with_reducible apply Gd.on); exact rfl; exact rfl)); exact rfl; focus (first
        | ((with_reducible apply Qv.shlZ); exact rfl; exact rfl; exact hp; omega; (first | with_reducible exact zv | with_reducible exact zh | with_reducible exact zx))
        | ((with_reducible apply Qv.shrZ 4294967296); exact rfl; exact rfl; (decide); (decide); (first | with_reducible exact z1 | with_reducible exact zu1))
        | ((with_reducible apply Qv.andZ); exact rfl; exact rfl; omega; (first | with_reducible exact z0 | with_reducible exact zu0))
        | ((with_reducible apply Qv.shrPZ (s := 64 - s)); exact rfl; exact rfl; omega; exact hp2; omega; with_reducible exact zl)
        | ((with_reducible apply Qv.shrPZ (s := s)); exact rfl; exact rfl; rfl; exact hp; omega; rfl)
        | ((with_reducible apply Qv.orP (s := s) hi); exact rfl; exact rfl; (rw [hp]; omega); omega; (rw [hp]; omega); omega)
        | ((with_reducible apply Qv.mul); exact rfl; exact rfl; (exact wru64 (by omega) (by omega) rfl))
        | ((with_reducible apply Qv.add); exact rfl; exact rfl; (exact wru64 (by omega) (by omega) rfl))
        | ((with_reducible apply Qv.subZ); exact rfl; exact rfl; with_reducible exact hZ _ (by (first | exact ki_exit hV hn1 hn0 hI.1 (by omega) | (have k2 := ki_next hV hn1 hn0 hu hu1 hI.1 (by omega); exact ki_stop hV hn1 hn0 hu1 k2.1 k2.2.2 (by omega)))))
        | ((with_reducible apply Qv.subZ); exact rfl; exact rfl; with_reducible exact hZ2 _ (by (first | exact ki_exit hV hn1 hn0 hJ.1 (by omega) | (have k2 := ki_next hV hn1 hn0 hu2 hu0 hJ.1 (by omega); exact ki_stop hV hn1 hn0 hu0 k2.1 k2.2.2 (by omega)))))
        | ((with_reducible apply Qv.sub); exact rfl; exact rfl; (exact wru64 (by omega) (by omega) rfl))
        | ((with_reducible apply Qv.mulM); exact rfl; exact rfl)
        | ((with_reducible apply Qv.addM); exact rfl; exact rfl)
        | ((with_reducible apply Qv.quoW); exact rfl; exact rfl; omega; omega)
        | ((with_reducible apply Qv.remW); exact rfl; exact rfl; omega; omega)
        | ((with_reducible apply Qv.pure); exact rfl)
        | ((with_reducible apply Qv.fieldAddr); exact rfl; (focus ((try simp only [nl, Nat.reduceAdd, Nat.reduceMul, Int.reduceToNat]); try exact rfl)))
        | ((with_reducible first | apply Qv.indexArr | apply Qv.indexBlk | apply Qv.indexN); exact rfl; exact rfl; (first | decide | omega | (constructor <;> omega)); (focus ((try simp only [nl, Nat.reduceAdd, Nat.reduceMul, Int.reduceToNat]); try exact rfl)))
        | ((with_reducible apply Qv.field1); exact rfl; exact rfl)
        | ((with_reducible apply Qv.fieldN); exact rfl; (focus ((try simp only [nl, Nat.reduceAdd, Nat.reduceMul, Int.reduceToNat]); try exact rfl)))
        | ((with_reducible apply Qv.index1); exact rfl; exact rfl; (first | decide | omega | (constructor <;> omega)); exact rfl)
        | ((with_reducible first | apply Qv.add | apply Qv.sub | apply Qv.mul); exact rfl; exact rfl; (first | exact wr64 (by omega) (by omega) (by (try simp only [Int.reduceAdd, Int.reduceSub, Int.reduceMul]); exact rfl) | exact wru64 (by omega) (by omega) (by (try simp only [Int.reduceAdd, Int.reduceSub, Int.reduceMul]); exact rfl) | exact rfl))
        | ((with_reducible apply Qv.conv); exact rfl; (first | exact wr64 (by omega) (by omega) (by (try simp only [Int.reduceAdd, Int.reduceSub, Int.reduceMul]); exact rfl) | exact wru64 (by omega) (by omega) (by (try simp only [Int.reduceAdd, Int.reduceSub, Int.reduceMul]); exact rfl) | exact rfl))
        | ((with_reducible first | apply Qv.eqlB | apply Qv.neqB); exact rfl; exact rfl)
        | ((with_reducible first | apply Qv.buildA | apply Qv.buildS); exact rfl; (simp only [bfill, nl, Nat.reduceAdd, Nat.reduceMul, Int.reduceToNat]; exact rfl))
        | ((with_reducible apply Qv.quoP); exact rfl; exact rfl; (first | decide | omega); (omega); (first | exact wr64 (by omega) (by omega) rfl | exact wru64 (by omega) (by omega) rfl))
        | ((with_reducible apply Qv.remP); exact rfl; exact rfl; (first | decide | omega); omega)
        | ((with_reducible apply Qv.rem); exact rfl; exact rfl; (first | decide | omega); exact rfl)
        | ((with_reducible apply Qv.quo); exact rfl; exact rfl; (first | decide | omega); (first | exact wr64 (by omega) (by omega) (by (try simp only [Int.reduceAdd, Int.reduceSub, Int.reduceMul]); exact rfl) | exact wru64 (by omega) (by omega) (by (try simp only [Int.reduceAdd, Int.reduceSub, Int.reduceMul]); exact rfl) | exact rfl))
        | ((with_reducible apply Qv.shl); exact rfl; exact rfl; (first | decide | omega); (first | (first | exact wr64 (by omega) (by omega) (by (try simp only [Int.reduceAdd, Int.reduceSub, Int.reduceMul]); exact rfl) | exact wru64 (by omega) (by omega) (by (try simp only [Int.reduceAdd, Int.reduceSub, Int.reduceMul]); exact rfl) | exact rfl) | exact rfl))
        | ((with_reducible apply Qv.shr); exact rfl; exact rfl; (first | decide | omega); exact rfl)
        | ((with_reducible apply Qv.lenS); exact rfl)
        | ((with_reducible apply Qv.lenStr); exact rfl)
        | ((with_reducible apply Qv.capS); exact rfl)
        | ((with_reducible apply Qv.max); exact rfl; exact rfl)
        | ((with_reducible apply Qv.min); exact rfl; exact rfl)))
      | ((with_reducible apply J.pl0_off); exact rfl; ((with_reducible apply Gd.off); exact rfl; exact rfl; exact rfl); exact rfl)
      | ((with_reducible apply J.pl1); exact rfl; (first | exact Gd.none | ((with_reducible apply Gd.on); exact rfl; exact rfl)); exact rfl; focus (first
        | ((with_reducible apply Qr.load1); exact rfl; (repeat (first | with_reducible exact In.here | with_reducible apply In.there)); exact rfl)
        | ((with_reducible apply Qr.loadN); exact rfl; (repeat (first | with_reducible exact In.here | with_reducible apply In.there)); (focus ((try simp only [nl, Nat.reduceAdd, Nat.reduceMul, Int.reduceToNat]); try exact rfl)); (focus (first | (simp only [nl, Nat.reduceAdd, Nat.reduceMul, Int.reduceToNat]; done) | exact rfl)))
        | ((with_reducible apply Qr.row1); exact rfl; (repeat (first | with_reducible exact In.here | with_reducible apply In.there)); exact rfl)
        | ((with_reducible apply Qr.rowN); exact rfl; (repeat (first | with_reducible exact In.here | with_reducible apply In.there)); (focus ((try simp only [nl, Nat.reduceAdd, Nat.reduceMul, Int.reduceToNat]); try exact rfl)); exact rfl)
        | ((with_reducible apply Qr.lenRow); exact rfl; (repeat (first | with_reducible exact In.here | with_reducible apply In.there)))))
      | ((with_reducible apply J.pl1_off); exact rfl; ((with_reducible apply Gd.off); exact rfl; exact rfl; exact rfl); exact rfl)
      | ((with_reducible apply J.pl2); exact rfl; (first | exact Gd.none | ((with_reducible apply Gd.on); exact rfl; exact rfl)); (repeat (first | (with_reducible exact PendF.nil) | ((with_reducible apply PendF.keep); exact rfl) | ((with_reducible apply PendF.gone); exact rfl))); focus (first
        | ((with_reducible apply J.givesP (lz_s _ s)); exact rfl; exact rfl; exact ⟨by omega, hs⟩)
        | ((with_reducible apply J.buildSlice); exact rfl; exact rfl; exact rfl; exact rfl; exact rfl; (simp only [bfill, rep, List.replicate_succ, List.replicate_zero, List.flatten_cons, List.flatten_nil, nl, Nat.reduceAdd, Nat.reduceMul, Int.reduceToNat]; exact rfl); intro _)
        | ((with_reducible apply J.buildSlice0); exact rfl; intro _)
        | ((with_reducible apply J.append); exact rfl; exact rfl; (repeat (first | with_reducible exact Out.here | with_reducible apply Out.there)); exact rfl; (repeat (first | with_reducible exact In.here | with_reducible apply In.there)); (focus ((try simp only [nl, Nat.reduceAdd, Nat.reduceMul, Int.reduceToNat]); try exact rfl)); exact rfl; exact rfl; exact rfl; exact rfl; exact rfl; (first | decide | (simp only [maxLen]; omega) | omega); (first | decide | (simp only [maxLen]; omega) | omega); intro _)
        | ((with_reducible apply J.appendNil); exact rfl; exact rfl; exact rfl; (repeat (first | with_reducible exact In.here | with_reducible apply In.there)); (focus ((try simp only [nl, Nat.reduceAdd, Nat.reduceMul, Int.reduceToNat]); try exact rfl)); exact rfl; exact rfl; exact rfl; exact rfl; exact rfl; (first | decide | (simp only [maxLen]; omega) | omega); (first | decide | (simp only [maxLen]; omega) | omega); intro _)
        | ((with_reducible apply J.boxN); exact rfl; exact rfl; intro _)
        | ((with_reducible apply J.box1); exact rfl; exact rfl; exact rfl; intro _)
        | ((with_reducible apply J.alloc); exact rfl; intro _)
        | ((with_reducible apply J.storeN); exact rfl; exact rfl; (repeat (first | with_reducible exact Upd.here | with_reducible apply Upd.there)); (focus ((try simp only [nl, Nat.reduceAdd, Nat.reduceMul, Int.reduceToNat]); try exact rfl)); (focus (first | (simp only [nl, Nat.reduceAdd, Nat.reduceMul, Int.reduceToNat]; done) | exact rfl)); (focus (first | (simp only [nl, Nat.reduceAdd, Nat.reduceMul, Int.reduceToNat]; done) | (simp only [nl, Nat.reduceAdd, Nat.reduceMul, Int.reduceToNat]; omega) | decide)); (first | (with_reducible exact wvs_ones _ _) | exact rfl))
        | ((with_reducible apply J.store1); exact rfl; exact rfl; exact rfl; (repeat (first | with_reducible exact Upd.here | with_reducible apply Upd.there)); (focus ((try simp only [nl, Nat.reduceAdd, Nat.reduceMul, Int.reduceToNat]); try exact rfl)); (first | decide | (simp only [nl, Nat.reduceAdd, Nat.reduceMul, Int.reduceToNat]; omega)))))
      | ((with_reducible apply J.pl2_off); exact rfl; ((with_reducible apply Gd.off); exact rfl; exact rfl; exact rfl); exact rfl; (repeat (first | (with_reducible exact PendF.nil) | ((with_reducible apply PendF.keep); exact rfl) | ((with_reducible apply PendF.gone); exact rfl))))
      | ((with_reducible apply J.pl2_off_none); exact rfl; ((with_reducible apply Gd.off); exact rfl; exact rfl; exact rfl); (repeat (first | (with_reducible exact PendF.nil) | ((with_reducible apply PendF.keep); exact rfl) | ((with_reducible apply PendF.gone); exact rfl))))
      | (with_reducible apply J.owe_nil)
      | ((with_reducible apply J.owe); exact rfl; (first | exact Gd.none | ((with_reducible apply Gd.on); exact rfl; exact rfl)); focus (first
        | ((with_reducible apply Qr.load1); exact rfl; (repeat (first | with_reducible exact In.here | with_reducible apply In.there)); exact rfl)
        | ((with_reducible apply Qr.loadN); exact rfl; (repeat (first | with_reducible exact In.here | with_reducible apply In.there)); (focus ((try simp only [nl, Nat.reduceAdd, Nat.reduceMul, Int.reduceToNat]); try exact rfl)); (focus (first | (simp only [nl, Nat.reduceAdd, Nat.reduceMul, Int.reduceToNat]; done) | exact rfl)))
        | ((with_reducible apply Qr.row1); exact rfl; (repeat (first | with_reducible exact In.here | with_reducible apply In.there)); exact rfl)
        | ((with_reducible apply Qr.rowN); exact rfl; (repeat (first | with_reducible exact In.here | with_reducible apply In.there)); (focus ((try simp only [nl, Nat.reduceAdd, Nat.reduceMul, Int.reduceToNat]); try exact rfl)); exact rfl)
        | ((with_reducible apply Qr.lenRow); exact rfl; (repeat (first | with_reducible exact In.here | with_reducible apply In.there)))))
      | ((with_reducible apply J.owe_off); exact rfl; ((with_reducible apply Gd.off); exact rfl; exact rfl; exact rfl))
      | ((with_reducible first | apply J.psplit0 | apply J.psplit1 | apply J.psplit2); exact rfl; exact rfl; exact rfl)
      | (with_reducible apply J.pl_nil)
      | (with_reducible exact J.pl_none)
  any_goals
    apply J.loopI (σ := Int × Int) (I := fun q => (KI u21 v n1 n0 u0 q.1 q.2 ∧ q.2 < 4294967296)) (L := fun q => [(2, .int .u64 v), (8, .int .u64 (s : Int)), (9, .int .u64 n1), (10, .int .u64 n0), (14, .int .u64 u0), (15, .int .u64 Q1), (17, .int .u64 u21), (18, .int .u64 q.1), (16, .int .u64 q.2)]) (HH := fun q => []) (m := fun q => q.1.toNat) (s0 := (u21 / n1, u21 - u21 / n1 * n1))
    · ((try dsimp only); (exact ⟨ki2.1, by omega⟩))
    · ((try dsimp only); repeat (first | exact sub.nil _ | (refine sub.consE rfl ?_ ?_; (first | with_reducible rfl | ((focus (congr 1; rw [← zQ1]; (first | exact ki_exit hV hn1 hn0 hI.1 (by omega) | (have k2 := ki_next hV hn1 hn0 hu hu1 hI.1 (by omega); exact ki_stop hV hn1 hn0 hu1 k2.1 k2.2.2 (by omega)))))) | rfl))))
    · ((try dsimp only); (repeat (first | (with_reducible exact Outs.nil) | ((with_reducible apply Outs.cons); (repeat (first | with_reducible exact Out.here | with_reducible apply Out.there))))))
    rintro ⟨q2, r2⟩ hJ
    try dsimp only at hJ ⊢
    have jq0 := hJ.1.q0
    have jq1 := hJ.1.q1
    have jr0 := hJ.1.r0
    have pb2 : 4294967296 ≤ q2 ∨ (0 ≤ q2 * n0 ∧ q2 * n0 ≤ 18446744065119617025) := by
      rcases Int.lt_or_le q2 4294967296 with z | z
      · exact .inr (mulB ⟨by omega, by omega⟩ ⟨by omega, by omega⟩)
      · exact .inl z
    have pz2 : 1 ≤ q2 ∨ q2 * n0 = 0 := by
      rcases Int.lt_or_le 0 q2 with z | z
      · exact .inl z
      · have z2 : q2 = 0 := by omega
        subst z2
        exact .inr (Int.zero_mul _)
    repeat' first
      | (with_reducible apply J.seq)
      | (with_reducible apply J.region_lit)
      | (with_reducible apply J.ops_nil)
      | (with_reducible apply J.app_cons)
      | (with_reducible apply J.app_nil)
      | (with_reducible apply J.then_)
      | (with_reducible apply J.blk_)
      | (with_reducible apply J.skip)
      | (with_reducible apply J.block)
      | ((with_reducible apply J.q0); exact rfl; focus (first
        | ((with_reducible apply Qv.shlZ); exact rfl; exact rfl; exact hp; omega; (first | with_reducible exact zv | with_reducible exact zh | with_reducible exact zx))
        | ((with_reducible apply Qv.shrZ 4294967296); exact rfl; exact rfl; (decide); (decide); (first | with_reducible exact z1 | with_reducible exact zu1))
        | ((with_reducible apply Qv.andZ); exact rfl; exact rfl; omega; (first | with_reducible exact z0 | with_reducible exact zu0))
        | ((with_reducible apply Qv.shrPZ (s := 64 - s)); exact rfl; exact rfl; omega; exact hp2; omega; with_reducible exact zl)
        | ((with_reducible apply Qv.shrPZ (s := s)); exact rfl; exact rfl; rfl; exact hp; omega; rfl)
        | ((with_reducible apply Qv.orP (s := s) hi); exact rfl; exact rfl; (rw [hp]; omega); omega; (rw [hp]; omega); omega)
        | ((with_reducible apply Qv.mul); exact rfl; exact rfl; (exact wru64 (by omega) (by omega) rfl))
        | ((with_reducible apply Qv.add); exact rfl; exact rfl; (exact wru64 (by omega) (by omega) rfl))
        | ((with_reducible apply Qv.subZ); exact rfl; exact rfl; with_reducible exact hZ _ (by (first | exact ki_exit hV hn1 hn0 hI.1 (by omega) | (have k2 := ki_next hV hn1 hn0 hu hu1 hI.1 (by omega); exact ki_stop hV hn1 hn0 hu1 k2.1 k2.2.2 (by omega)))))
        | ((with_reducible apply Qv.subZ); exact rfl; exact rfl; with_reducible exact hZ2 _ (by (first | exact ki_exit hV hn1 hn0 hJ.1 (by omega) | (have k2 := ki_next hV hn1 hn0 hu2 hu0 hJ.1 (by omega); exact ki_stop hV hn1 hn0 hu0 k2.1 k2.2.2 (by omega)))))
        | ((with_reducible apply Qv.sub); exact rfl; exact rfl; (exact wru64 (by omega) (by omega) rfl))
        | ((with_reducible apply Qv.mulM); exact rfl; exact rfl)
        | ((with_reducible apply Qv.addM); exact rfl; exact rfl)
        | ((with_reducible apply Qv.quoW); exact rfl; exact rfl; omega; omega)
        | ((with_reducible apply Qv.remW); exact rfl; exact rfl; omega; omega)
        | ((with_reducible apply Qv.pure); exact rfl)
        | ((with_reducible apply Qv.fieldAddr); exact rfl; (focus ((try simp only [nl, Nat.reduceAdd, Nat.reduceMul, Int.reduceToNat]); try exact rfl)))
        | ((with_reducible first | apply Qv.indexArr | apply Qv.indexBlk | apply Qv.indexN); exact rfl; exact rfl; (first | decide | omega | (constructor <;> omega)); (focus ((try simp only [nl, Nat.reduceAdd, Nat.reduceMul, Int.reduceToNat]); try exact rfl)))
        | ((with_reducible apply Qv.field1); exact rfl; exact rfl)
        | ((with_reducible apply Qv.fieldN); exact rfl; (focus ((try simp only [nl, Nat.reduceAdd, Nat.reduceMul, Int.reduceToNat]); try exact rfl)))
        | ((with_reducible apply Qv.index1); exact rfl; exact rfl; (first | decide | omega | (constructor <;> omega)); exact rfl)
        | ((with_reducible first | apply Qv.add | apply Qv.sub | apply Qv.mul); exact rfl; exact rfl; (first | exact wr64 (by omega) (by omega) (by (try simp only [Int.reduceAdd, Int.reduceSub, Int.reduceMul]); exact rfl) | exact wru64 (by omega) (by omega) (by (try simp only [Int.reduceAdd, Int.reduceSub, Int.reduceMul]); exact rfl) | exact rfl))
        | ((with_reducible apply Qv.conv); exact rfl; (first | exact wr64 (by omega) (by omega) (by (try simp only [Int.reduceAdd, Int.reduceSub, Int.reduceMul]); exact rfl) | exact wru64 (by omega) (by omega) (by (try simp only [Int.reduceAdd, Int.reduceSub, Int.reduceMul]); exact rfl) | exact rfl))
        | ((with_reducible first | apply Qv.eqlB | apply Qv.neqB); exact rfl; exact rfl)
        | ((with_reducible first | apply Qv.buildA | apply Qv.buildS); exact rfl; (simp only [bfill, nl, Nat.reduceAdd, Nat.reduceMul, Int.reduceToNat]; exact rfl))
        | ((with_reducible apply Qv.quoP); exact rfl; exact rfl; (first | decide | omega); (omega); (first | exact wr64 (by omega) (by omega) rfl | exact wru64 (by omega) (by omega) rfl))
        | ((with_reducible apply Qv.remP); exact rfl; exact rfl; (first | decide | omega); omega)
        | ((with_reducible apply Qv.rem); exact rfl; exact rfl; (first | decide | omega); exact rfl)
        | ((with_reducible apply Qv.quo); exact rfl; exact rfl; (first | decide | omega); (first | exact wr64 (by omega) (by omega) (by (try simp only [Int.reduceAdd, Int.reduceSub, Int.reduceMul]); exact rfl) | exact wru64 (by omega) (by omega) (by (try simp only [Int.reduceAdd, Int.reduceSub, Int.reduceMul]); exact rfl) | exact rfl))
        | ((with_reducible apply Qv.shl); exact rfl; exact rfl; (first | decide | omega); (first | (first | exact wr64 (by omega) (by omega) (by (try simp only [Int.reduceAdd, Int.reduceSub, Int.reduceMul]); exact rfl) | exact wru64 (by omega) (by omega) (by (try simp only [Int.reduceAdd, Int.reduceSub, Int.reduceMul]); exact rfl) | exact rfl) | exact rfl))
        | ((with_reducible apply Qv.shr); exact rfl; exact rfl; (first | decide | omega); exact rfl)
        | ((with_reducible apply Qv.lenS); exact rfl)
        | ((with_reducible apply Qv.lenStr); exact rfl)
        | ((with_reducible apply Qv.capS); exact rfl)
        | ((with_reducible apply Qv.max); exact rfl; exact rfl)
        | ((with_reducible apply Qv.min); exact rfl; exact rfl)))
      | ((with_reducible apply J.q1); exact rfl; focus (first
        | ((with_reducible apply Qr.load1); exact rfl; (repeat (first | with_reducible exact In.here | with_reducible apply In.there)); exact rfl)
        | ((with_reducible apply Qr.loadN); exact rfl; (repeat (first | with_reducible exact In.here | with_reducible apply In.there)); (focus ((try simp only [nl, Nat.reduceAdd, Nat.reduceMul, Int.reduceToNat]); try exact rfl)); (focus (first | (simp only [nl, Nat.reduceAdd, Nat.reduceMul, Int.reduceToNat]; done) | exact rfl)))
        | ((with_reducible apply Qr.row1); exact rfl; (repeat (first | with_reducible exact In.here | with_reducible apply In.there)); exact rfl)
        | ((with_reducible apply Qr.rowN); exact rfl; (repeat (first | with_reducible exact In.here | with_reducible apply In.there)); (focus ((try simp only [nl, Nat.reduceAdd, Nat.reduceMul, Int.reduceToNat]); try exact rfl)); exact rfl)
        | ((with_reducible apply Qr.lenRow); exact rfl; (repeat (first | with_reducible exact In.here | with_reducible apply In.there)))))
      | ((with_reducible apply J.guard_on); exact rfl; exact rfl)
      | ((with_reducible apply J.guard_off); exact rfl; exact rfl; exact rfl; exact rfl)
      | ((with_reducible apply J.guard_off_none); exact rfl; exact rfl; exact rfl)
      | ((with_reducible apply J.gsplit); exact rfl; exact rfl)
      | ((with_reducible apply J.list); focus (first
        | ((with_reducible apply J.givesP (lz_s _ s)); exact rfl; exact rfl; exact ⟨by omega, hs⟩)
        | ((with_reducible apply J.buildSlice); exact rfl; exact rfl; exact rfl; exact rfl; exact rfl; (simp only [bfill, rep, List.replicate_succ, List.replicate_zero, List.flatten_cons, List.flatten_nil, nl, Nat.reduceAdd, Nat.reduceMul, Int.reduceToNat]; exact rfl); intro _)
        | ((with_reducible apply J.buildSlice0); exact rfl; intro _)
        | ((with_reducible apply J.append); exact rfl; exact rfl; (repeat (first | with_reducible exact Out.here | with_reducible apply Out.there)); exact rfl; (repeat (first | with_reducible exact In.here | with_reducible apply In.there)); (focus ((try simp only [nl, Nat.reduceAdd, Nat.reduceMul, Int.reduceToNat]); try exact rfl)); exact rfl; exact rfl; exact rfl; exact rfl; exact rfl; (first | decide | (simp only [maxLen]; omega) | omega); (first | decide | (simp only [maxLen]; omega) | omega); intro _)
        | ((with_reducible apply J.appendNil); exact rfl; exact rfl; exact rfl; (repeat (first | with_reducible exact In.here | with_reducible apply In.there)); (focus ((try simp only [nl, Nat.reduceAdd, Nat.reduceMul, Int.reduceToNat]); try exact rfl)); exact rfl; exact rfl; exact rfl; exact rfl; exact rfl; (first | decide | (simp only [maxLen]; omega) | omega); (first | decide | (simp only [maxLen]; omega) | omega); intro _)
        | ((with_reducible apply J.boxN); exact rfl; exact rfl; intro _)
        | ((with_reducible apply J.box1); exact rfl; exact rfl; exact rfl; intro _)
        | ((with_reducible apply J.alloc); exact rfl; intro _)
        | ((with_reducible apply J.storeN); exact rfl; exact rfl; (repeat (first | with_reducible exact Upd.here | with_reducible apply Upd.there)); (focus ((try simp only [nl, Nat.reduceAdd, Nat.reduceMul, Int.reduceToNat]); try exact rfl)); (focus (first | (simp only [nl, Nat.reduceAdd, Nat.reduceMul, Int.reduceToNat]; done) | exact rfl)); (focus (first | (simp only [nl, Nat.reduceAdd, Nat.reduceMul, Int.reduceToNat]; done) | (simp only [nl, Nat.reduceAdd, Nat.reduceMul, Int.reduceToNat]; omega) | decide)); (first | (with_reducible exact wvs_ones _ _) | exact rfl))
        | ((with_reducible apply J.store1); exact rfl; exact rfl; exact rfl; (repeat (first | with_reducible exact Upd.here | with_reducible apply Upd.there)); (focus ((try simp only [nl, Nat.reduceAdd, Nat.reduceMul, Int.reduceToNat]); try exact rfl)); (first | decide | (simp only [nl, Nat.reduceAdd, Nat.reduceMul, Int.reduceToNat]; omega)))))
      | ((with_reducible apply J.cond_true); exact rfl)
      | ((with_reducible apply J.cond_false); exact rfl)
      | ((with_reducible apply J.cond); exact rfl)
      | (intro h; exfalso; (first | (simp at h; done) | omega))
      | (intro h; (try simp only [decide_eq_true_eq, decide_eq_false_iff_not, beq_iff_eq, beq_eq_false_iff_ne, Bool.not_eq_true', Bool.not_eq_false', bne_iff_ne, bne_eq_false_iff_eq, ne_eq, ge_iff_le, gt_iff_lt] at h))
      | (with_reducible apply J.cret)
      | ((with_reducible apply J.ret); exact rfl; exact rfl; (repeat (first | (with_reducible exact Res.nil) | ((with_reducible apply Res.tmp); exact rfl) | ((with_reducible apply Res.cell1); exact rfl; (repeat (first | with_reducible exact In.here | with_reducible apply In.there)); exact rfl) | ((with_reducible apply Res.cellN); exact rfl; (repeat (first | with_reducible exact In.here | with_reducible apply In.there)); (focus ((try simp only [nl, Nat.reduceAdd, Nat.reduceMul, Int.reduceToNat]); try exact rfl)); (focus (first | (simp only [nl, Nat.reduceAdd, Nat.reduceMul, Int.reduceToNat]; done) | exact rfl))))); exact rfl)
      | ((with_reducible apply J.ret_normal); exact rfl; exact rfl; (repeat (first | (with_reducible exact Res.nil) | ((with_reducible apply Res.tmp); exact rfl) | ((with_reducible apply Res.cell1); exact rfl; (repeat (first | with_reducible exact In.here | with_reducible apply In.there)); exact rfl) | ((with_reducible apply Res.cellN); exact rfl; (repeat (first | with_reducible exact In.here | with_reducible apply In.there)); (focus ((try simp only [nl, Nat.reduceAdd, Nat.reduceMul, Int.reduceToNat]); try exact rfl)); (focus (first | (simp only [nl, Nat.reduceAdd, Nat.reduceMul, Int.reduceToNat]; done) | exact rfl))))); exact rfl)
      | (with_reducible apply J.gave')
      | ((with_reducible apply J.kept'); rotate_left; (repeat (first | (with_reducible exact Outs.nil) | ((with_reducible apply Outs.cons); (repeat (first | with_reducible exact Out.here | with_reducible apply Out.there))))))
      | (with_reducible apply J.exit)
      | (with_reducible apply J.then_ret)
      | (with_reducible apply J.then_exit)
      | (with_reducible apply J.then_panic)
      | (with_reducible apply J.blk_ret)
      | (with_reducible apply J.blk_panic)
      | (with_reducible apply J.blk_exit)
      | ((with_reducible apply J.blk_past); exact rfl)
      | ((with_reducible apply J.draw (id := 6) [0, 0, 3, 0, 0, 24, 7, 127] (.p 0 (.p 1 (.p 2 (.p 3 (.p 4 (.p 5 (.p 6 (.p 7 .nil)))))))) (by kernel_rfl) ?_ (by kernel_rfl) ?_); (repeat (with_reducible first | exact PanicFree.body | apply PanicFree.then_ | apply PanicFree.blk)))
      | ((with_reducible apply J.pl0); exact rfl; (first | exact Gd.none | ((with_reducible apply Gd.on); exact rfl; exact rfl)); exact rfl; focus (first
        | ((with_reducible apply Qv.shlZ); exact rfl; exact rfl; exact hp; omega; (first | with_reducible exact zv | with_reducible exact zh | with_reducible exact zx))
        | ((with_reducible apply Qv.shrZ 4294967296); exact rfl; exact rfl; (decide); (decide); (first | with_reducible exact z1 | with_reducible exact zu1))
        | ((with_reducible apply Qv.andZ); exact rfl; exact rfl; omega; (first | with_reducible exact z0 | with_reducible exact zu0))
        | ((with_reducible apply Qv.shrPZ (s := 64 - s)); exact rfl; exact rfl; omega; exact hp2; omega; with_reducible exact zl)
        | ((with_reducible apply Qv.shrPZ (s := s)); exact rfl; exact rfl; rfl; exact hp; omega; rfl)
        | ((with_reducible apply Qv.orP (s := s) hi); exact rfl; exact rfl; (rw [hp]; omega); omega; (rw [hp]; omega); omega)
        | ((with_reducible apply Qv.mul); exact rfl; exact rfl; (exact wru64 (by omega) (by omega) rfl))
        | ((with_reducible apply Qv.add); exact rfl; exact rfl; (exact wru64 (by omega) (by omega) rfl))
        | ((with_reducible apply Qv.subZ); exact rfl; exact rfl; with_reducible exact hZ _ (by (first | exact ki_exit hV hn1 hn0 hI.1 (by omega) | (have k2 := ki_next hV hn1 hn0 hu hu1 hI.1 (by omega); exact ki_stop hV hn1 hn0 hu1 k2.1 k2.2.2 (by omega)))))
        | ((with_reducible apply Qv.subZ); exact rfl; exact rfl; with_reducible exact hZ2 _ (by (first | exact ki_exit hV hn1 hn0 hJ.1 (by omega) | (have k2 := ki_next hV hn1 hn0 hu2 hu0 hJ.1 (by omega); exact ki_stop hV hn1 hn0 hu0 k2.1 k2.2.2 (by omega)))))
        | ((with_reducible apply Qv.sub); exact rfl; exact rfl; (exact wru64 (by omega) (by omega) rfl))
        | ((with_reducible apply Qv.mulM); exact rfl; exact rfl)
        | ((with_reducible apply Qv.addM); exact rfl; exact rfl)
        | ((with_reducible apply Qv.quoW); exact rfl; exact rfl; omega; omega)
        | ((with_reducible apply Qv.remW); exact rfl; exact rfl; omega; omega)
        | ((with_reducible apply Qv.pure); exact rfl)
        | ((with_reducible apply Qv.fieldAddr); exact rfl; (focus ((try simp only [nl, Nat.reduceAdd, Nat.reduceMul, Int.reduceToNat]); try exact rfl)))
        | ((with_reducible first | apply Qv.indexArr | apply Qv.indexBlk | apply Qv.indexN); exact rfl; exact rfl; (first | decide | omega | (constructor <;> omega)); (focus ((try simp only [nl, Nat.reduceAdd, Nat.reduceMul, Int.reduceToNat]); try exact rfl)))
        | ((with_reducible apply Qv.field1); exact rfl; exact rfl)
        | ((with_reducible apply Qv.fieldN); exact rfl; (focus ((try simp only [nl, Nat.reduceAdd, Nat.reduceMul, Int.reduceToNat]); try exact rfl)))
        | ((with_reducible apply Qv.index1); exact rfl; exact rfl; (first | decide | omega | (constructor <;> omega)); exact rfl)
        | ((with_reducible first | apply Qv.add | apply Qv.sub | apply Qv.mul); exact rfl; exact rfl; (first | exact wr64 (by omega) (by omega) (by (try simp only [Int.reduceAdd, Int.reduceSub, Int.reduceMul]); exact rfl) | exact wru64 (by omega) (by omega) (by (try simp only [Int.reduceAdd, Int.reduceSub, Int.reduceMul]); exact rfl) | exact rfl))
        | ((with_reducible apply Qv.conv); exact rfl; (first | exact wr64 (by omega) (by omega) (by (try simp only [Int.reduceAdd, Int.reduceSub, Int.reduceMul]); exact rfl) | exact wru64 (by omega) (by omega) (by (try simp only [Int.reduceAdd, Int.reduceSub, Int.reduceMul]); exact rfl) | exact rfl))
        | ((with_reducible first | apply Qv.eqlB | apply Qv.neqB); exact rfl; exact rfl)
        | ((with_reducible first | apply Qv.buildA | apply Qv.buildS); exact rfl; (simp only [bfill, nl, Nat.reduceAdd, Nat.reduceMul, Int.reduceToNat]; exact rfl))
        | ((with_reducible apply Qv.quoP); exact rfl; exact rfl; (first | decide | omega); (omega); (first | exact wr64 (by omega) (by omega) rfl | exact wru64 (by omega) (by omega) rfl))
        | ((with_reducible apply Qv.remP); exact rfl; exact rfl; (first | decide | omega); omega)
        | ((with_reducible apply Qv.rem); exact rfl; exact rfl; (first | decide | omega); exact rfl)
        | ((with_reducible apply Qv.quo); exact rfl; exact rfl; (first | decide | omega); (first | exact wr64 (by omega) (by omega) (by (try simp only [Int.reduceAdd, Int.reduceSub, Int.reduceMul]); exact rfl) | exact wru64 (by omega) (by omega) (by (try simp only [Int.reduceAdd, Int.reduceSub, Int.reduceMul]); exact rfl) | exact rfl))
        | ((with_reducible apply Qv.shl); exact rfl; exact rfl; (first | decide | omega); (first | (first | exact wr64 (by omega) (by omega) (by (try simp only [Int.reduceAdd, Int.reduceSub, Int.reduceMul]); exact rfl) | exact wru64 (by omega) (by omega) (by (try simp only [Int.reduceAdd, Int.reduceSub, Int.reduceMul]); exact rfl) | exact rfl) | exact rfl))
        | ((with_reducible apply Qv.shr); exact rfl; exact rfl; (first | decide | omega); exact rfl)
        | ((with_reducible apply Qv.lenS); exact rfl)
        | ((with_reducible apply Qv.lenStr); exact rfl)
        | ((with_reducible apply Qv.capS); exact rfl)
        | ((with_reducible apply Qv.max); exact rfl; exact rfl)
        | ((with_reducible apply Qv.min); exact rfl; exact rfl)))
      | ((with_reducible apply J.pl0_off); exact rfl; ((with_reducible apply Gd.off); exact rfl; exact rfl; exact rfl); exact rfl)
      | ((with_reducible apply J.pl1); exact rfl; (first | exact Gd.none | ((with_reducible apply Gd.on); exact rfl; exact rfl)); exact rfl; focus (first
        | ((with_reducible apply Qr.load1); exact rfl; (repeat (first | with_reducible exact In.here | with_reducible apply In.there)); exact rfl)
        | ((with_reducible apply Qr.loadN); exact rfl; (repeat (first | with_reducible exact In.here | with_reducible apply In.there)); (focus ((try simp only [nl, Nat.reduceAdd, Nat.reduceMul, Int.reduceToNat]); try exact rfl)); (focus (first | (simp only [nl, Nat.reduceAdd, Nat.reduceMul, Int.reduceToNat]; done) | exact rfl)))
        | ((with_reducible apply Qr.row1); exact rfl; (repeat (first | with_reducible exact In.here | with_reducible apply In.there)); exact rfl)
        | ((with_reducible apply Qr.rowN); exact rfl; (repeat (first | with_reducible exact In.here | with_reducible apply In.there)); (focus ((try simp only [nl, Nat.reduceAdd, Nat.reduceMul, Int.reduceToNat]); try exact rfl)); exact rfl)
        | ((with_reducible apply Qr.lenRow); exact rfl; (repeat (first | with_reducible exact In.here | with_reducible apply In.there)))))
      | ((with_reducible apply J.pl1_off); exact rfl; ((with_reducible apply Gd.off); exact rfl; exact rfl; exact rfl); exact rfl)
      | ((with_reducible apply J.pl2); exact rfl; (first | exact Gd.none | ((with_reducible apply Gd.on); exact rfl; exact rfl)); (repeat (first | (with_reducible exact PendF.nil) | ((with_reducible apply PendF.keep); exact rfl) | ((with_reducible apply PendF.gone); exact rfl))); focus (first
        | ((with_reducible apply J.givesP (lz_s _ s)); exact rfl; exact rfl; exact ⟨by omega, hs⟩)
        | ((with_reducible apply J.buildSlice); exact rfl; exact rfl; exact rfl; exact rfl; exact rfl; (simp only [bfill, rep, List.replicate_succ, List.replicate_zero, List.flatten_cons, List.flatten_nil, nl, Nat.reduceAdd, Nat.reduceMul, Int.reduceToNat]; exact rfl); intro _)
        | ((with_reducible apply J.buildSlice0); exact rfl; intro _)
        | ((with_reducible apply J.append); exact rfl; exact rfl; (repeat (first | with_reducible exact Out.here | with_reducible apply Out.there)); exact rfl; (repeat (first | with_reducible exact In.here | with_reducible apply In.there)); (focus ((try simp only [nl, Nat.reduceAdd, Nat.reduceMul, Int.reduceToNat]); try exact rfl)); exact rfl; exact rfl; exact rfl; exact rfl; exact rfl; (first | decide | (simp only [maxLen]; omega) | omega); (first | decide | (simp only [maxLen]; omega) | omega); intro _)
        | ((with_reducible apply J.appendNil); exact rfl; exact rfl; exact rfl; (repeat (first | with_reducible exact In.here | with_reducible apply In.there)); (focus ((try simp only [nl, Nat.reduceAdd, Nat.reduceMul, Int.reduceToNat]); try exact rfl)); exact rfl; exact rfl; exact rfl; exact rfl; exact rfl; (first | decide | (simp only [maxLen]; omega) | omega); (first | decide | (simp only [maxLen]; omega) | omega); intro _)
        | ((with_reducible apply J.boxN); exact rfl; exact rfl; intro _)
        | ((with_reducible apply J.box1); exact rfl; exact rfl; exact rfl; intro _)
        | ((with_reducible apply J.alloc); exact rfl; intro _)
        | ((with_reducible apply J.storeN); exact rfl; exact rfl; (repeat (first | with_reducible exact Upd.here | with_reducible apply Upd.there)); (focus ((try simp only [nl, Nat.reduceAdd, Nat.reduceMul, Int.reduceToNat]); try exact rfl)); (focus (first | (simp only [nl, Nat.reduceAdd, Nat.reduceMul, Int.reduceToNat]; done) | exact rfl)); (focus (first | (simp only [nl, Nat.reduceAdd, Nat.reduceMul, Int.reduceToNat]; done) | (simp only [nl, Nat.reduceAdd, Nat.reduceMul, Int.reduceToNat]; omega) | decide)); (first | (with_reducible exact wvs_ones _ _) | exact rfl))
        | ((with_reducible apply J.store1); exact rfl; exact rfl; exact rfl; (repeat (first | with_reducible exact Upd.here | with_reducible apply Upd.there)); (focus ((try simp only [nl, Nat.reduceAdd, Nat.reduceMul, Int.reduceToNat]); try exact rfl)); (first | decide | (simp only [nl, Nat.reduceAdd, Nat.reduceMul, Int.reduceToNat]; omega)))))
      | ((with_reducible apply J.pl2_off); exact rfl; ((with_reducible apply Gd.off); exact rfl; exact rfl; exact rfl); exact rfl; (repeat (first | (with_reducible exact PendF.nil) | ((with_reducible apply PendF.keep); exact rfl) | ((with_reducible apply PendF.gone); exact rfl))))
      | ((with_reducible apply J.pl2_off_none); exact rfl; ((with_reducible apply Gd.off); exact rfl; exact rfl; exact rfl); (repeat (first | (with_reducible exact PendF.nil) | ((with_reducible apply PendF.keep); exact rfl) | ((with_reducible apply PendF.gone); exact rfl))))
      | (with_reducible apply J.owe_nil)
      | ((with_reducible apply J.owe); exact rfl; (first | exact Gd.none | ((with_reducible apply Gd.on); exact rfl; exact rfl)); focus (first
        | ((with_reducible apply Qr.load1); exact rfl; (repeat (first | with_reducible exact In.here | with_reducible apply In.there)); exact rfl)
        | ((with_reducible apply Qr.loadN); exact rfl; (repeat (first | with_reducible exact In.here | with_reducible apply In.there)); (focus ((try simp only [nl, Nat.reduceAdd, Nat.reduceMul, Int.reduceToNat]); try exact rfl)); (focus (first | (simp only [nl, Nat.reduceAdd, Nat.reduceMul, Int.reduceToNat]; done) | exact rfl)))
        | ((with_reducible apply Qr.row1); exact rfl; (repeat (first | with_reducible exact In.here | with_reducible apply In.there)); exact rfl)
        | ((with_reducible apply Qr.rowN); exact rfl; (repeat (first | with_reducible exact In.here | with_reducible apply In.there)); (focus ((try simp only [nl, Nat.reduceAdd, Nat.reduceMul, Int.reduceToNat]); try exact rfl)); exact rfl)
        | ((with_reducible apply Qr.lenRow); exact rfl; (repeat (first | with_reducible exact In.here | with_reducible apply In.there)))))
      | ((with_reducible apply J.owe_off); exact rfl; ((with_reducible apply Gd.off); exact rfl; exact rfl; exact rfl))
      | ((with_reducible first | apply J.psplit0 | apply J.psplit1 | apply J.psplit2); exact rfl; exact rfl; exact rfl)
      | (with_reducible apply J.pl_nil)
      | (with_reducible exact J.pl_none)
  all_goals
    first
    | (exfalso; omega)
    | (have e0 : hi = 0 := by omega
       subst e0
       simp only [retv, Int.zero_mul, Int.zero_add]
       done)
    | ((apply J.againI (s := (q, r)) (s' := (q - 1, r + n1)); (focus (((try simp only); have k3 := (ki_next hV hn1 hn0 hu hu1 hI.1 (by omega)).2.1; omega))); (focus ((try dsimp only); (exact ⟨(ki_next hV hn1 hn0 hu hu1 hI.1 (by omega)).1, by omega⟩))); (focus (((try dsimp only); repeat (first | exact sub.nil _ | (refine sub.consE rfl ?_ ?_; (first | with_reducible rfl | (fail) | rfl)))))); ((try dsimp only); (repeat (first | (with_reducible exact Outs.nil) | ((with_reducible apply Outs.cons); (repeat (first | with_reducible exact Out.here | with_reducible apply Out.there))))))))
    | ((apply J.againI (s := (q2, r2)) (s' := (q2 - 1, r2 + n1)); (focus (((try simp only); have k3 := (ki_next hV hn1 hn0 hu2 hu0 hJ.1 (by omega)).2.1; omega))); (focus ((try dsimp only); (exact ⟨(ki_next hV hn1 hn0 hu2 hu0 hJ.1 (by omega)).1, by omega⟩))); (focus (((try dsimp only); repeat (first | exact sub.nil _ | (refine sub.consE rfl ?_ ?_; (first | with_reducible rfl | (fail) | rfl)))))); ((try dsimp only); (repeat (first | (with_reducible exact Outs.nil) | ((with_reducible apply Outs.cons); (repeat (first | with_reducible exact Out.here | with_reducible apply Out.there))))))))
    | (have eq0 := ki_exit hV hn1 hn0 hJ.1 (by omega)
       rw [zQ0] at eq0
       simp only [retv]
       rw [eq0]
       try rw [show (Q1 * 4294967296 + Q0) % 18446744073709551616 = Q1 * 4294967296 + Q0 by omega]
       rw [fin.1, fin.2]
       done)
    | (have k2 := ki_next hV hn1 hn0 hu2 hu0 hJ.1 (by omega)
       have eq0 := ki_stop hV hn1 hn0 hu0 k2.1 k2.2.2 (by omega)
       rw [zQ0] at eq0
       simp only [retv]
       rw [eq0]
       try rw [show (Q1 * 4294967296 + Q0) % 18446744073709551616 = Q1 * 4294967296 + Q0 by omega]
       rw [fin.1, fin.2]
       done)
    | (trace_state; fail)
end Go.Proofs.Ytnbckkpflmpnlaa.Quo
