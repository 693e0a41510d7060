/-
  Decimals, plainly: the text of a number, the number of a text, and how they stand to each other. No conditions.
-/
import Derived.Test.YtnbckkpflmpnlaaStr
namespace Go.Proofs.Ytnbckkpflmpnlaa.Dec
open Go
set_option linter.unusedVariables false

def isDig (b : UInt8) : Bool := decide (48 ≤ b.toNat) && decide (b.toNat ≤ 57)
def dv (b : UInt8) : Nat := b.toNat - 48
def dc (d : Nat) : UInt8 := UInt8.ofNat (48 + d)
theorem dc_nat {d : Nat} (h : d < 10) : (dc d).toNat = 48 + d := by
  unfold dc
  rw [UInt8.toNat_ofNat']
  omega
theorem dv_dc {d : Nat} (h : d < 10) : dv (dc d) = d := by unfold dv; rw [dc_nat h]; omega
theorem dig_dc {d : Nat} (h : d < 10) : isDig (dc d) = true := by
  unfold isDig
  rw [dc_nat h]
  simp; omega
theorem dc_dv {b : UInt8} (h : isDig b = true) : dc (dv b) = b := by
  unfold isDig at h
  simp at h
  apply UInt8.toNat_inj.1
  unfold dv
  rw [dc_nat (by omega)]
  omega
theorem dv_lt {b : UInt8} (h : isDig b = true) : dv b < 10 := by
  unfold isDig at h
  simp at h
  unfold dv
  omega

/-- A number's decimals. -/
def dec (n : Nat) : List UInt8 := if n < 10 then [dc n] else dec (n / 10) ++ [dc (n % 10)]
termination_by n
decreasing_by omega
theorem dec_lt {n : Nat} (h : n < 10) : dec n = [dc n] := by rw [dec, if_pos h]
theorem dec_ge {n : Nat} (h : 10 ≤ n) : dec n = dec (n / 10) ++ [dc (n % 10)] := by rw [dec, if_neg (by omega)]
theorem dec_pos (n : Nat) : 0 < (dec n).length := by
  rw [dec]
  split <;> simp
theorem dec_len {n : Nat} : ∀ {k : Nat}, 0 < k → n < 10 ^ k → (dec n).length ≤ k := by
  induction n using Nat.strongRecOn with
  | _ n ih =>
    intro k hk h
    rcases Nat.lt_or_ge n 10 with h1 | h1
    · rw [dec_lt h1, List.length_singleton]; omega
    · rw [dec_ge h1]
      obtain ⟨j, rfl⟩ : ∃ j, k = j + 1 := ⟨k - 1, by omega⟩
      have hj : 0 < j := by
        rcases Nat.eq_zero_or_pos j with z | z
        · subst z; simp at h; omega
        · exact z
      have := ih (n / 10) (by omega) hj (by rw [Nat.pow_succ] at h; omega)
      simp; omega
theorem dec_len_ge {n : Nat} : ∀ {k : Nat}, 10 ^ k ≤ n → k < (dec n).length := by
  induction n using Nat.strongRecOn with
  | _ n ih =>
    intro k h
    rcases Nat.lt_or_ge n 10 with h1 | h1
    · cases k with
      | zero => exact dec_pos n
      | succ k =>
        exfalso
        have : 1 ≤ 10 ^ k := Nat.pow_pos (by decide)
        rw [Nat.pow_succ] at h; omega
    · rw [dec_ge h1]
      cases k with
      | zero => simp
      | succ k =>
        have := ih (n / 10) (by omega) (k := k) (by rw [Nat.pow_succ] at h; omega)
        simp; omega
theorem dec_digs (n : Nat) : (dec n).all isDig = true := by
  induction n using Nat.strongRecOn with
  | _ n ih =>
    rcases Nat.lt_or_ge n 10 with h1 | h1
    · rw [dec_lt h1]; simp [dig_dc h1]
    · rw [dec_ge h1, List.all_append, ih (n / 10) (by omega)]
      simp [dig_dc (show n % 10 < 10 by omega)]
/-- The number of decimals. -/
def val (s : List UInt8) : Nat := s.foldl (fun a b => a * 10 + dv b) 0
theorem val_snoc (s : List UInt8) (b : UInt8) : val (s ++ [b]) = val s * 10 + dv b := by simp [val]
theorem val_dec (n : Nat) : val (dec n) = n := by
  induction n using Nat.strongRecOn with
  | _ n ih =>
    rcases Nat.lt_or_ge n 10 with h1 | h1
    · rw [dec_lt h1]; simp [val, dv_dc h1]
    · rw [dec_ge h1, val_snoc, ih (n / 10) (by omega), dv_dc (by omega)]
      omega
/-- No 0 ahead. -/
def okS (s : List UInt8) : Bool := s.all isDig && (!decide (s = []) && (!decide ((s[0]?).getD 0 = 48) || decide (s.length = 1)))
theorem head_dec {n : Nat} (h : 0 < n) : ∃ b t, dec n = b :: t ∧ b ≠ 48 := by
  induction n using Nat.strongRecOn with
  | _ n ih =>
    rcases Nat.lt_or_ge n 10 with h1 | h1
    · refine ⟨dc n, [], dec_lt h1, fun e => ?_⟩
      have := dc_nat h1
      rw [e] at this
      have h48 : (48 : UInt8).toNat = 48 := rfl
      omega
    · obtain ⟨b, t, e, hb⟩ := ih (n / 10) (by omega) (by omega)
      exact ⟨b, t ++ [dc (n % 10)], by rw [dec_ge h1, e]; rfl, hb⟩
theorem ok_dec (n : Nat) : okS (dec n) = true := by
  unfold okS
  rw [dec_digs]
  rcases Nat.eq_zero_or_pos n with rfl | h
  · rw [dec_lt (by decide)]; decide
  · obtain ⟨b, t, e, hb⟩ := head_dec h
    rw [e]
    simp [hb]
theorem val_ge (s : List UInt8) : ∀ t, val s * 10 ^ t.length ≤ val (s ++ t) := by
  intro t
  induction t generalizing s with
  | nil => simp
  | cons b t ih =>
    have h1 := ih (s ++ [b])
    rw [val_snoc] at h1
    rw [List.append_assoc] at h1
    refine Nat.le_trans ?_ h1
    rw [List.length_cons, Nat.pow_succ]
    rw [Nat.add_mul]
    have : val s * (10 ^ t.length * 10) = val s * 10 * 10 ^ t.length := by rw [Nat.mul_assoc, Nat.mul_comm 10]
    omega
theorem val_mono (s t : List UInt8) : val s ≤ val (s ++ t) := by
  have h := val_ge s t
  have : 1 ≤ 10 ^ t.length := Nat.pow_pos (by decide)
  exact Nat.le_trans (Nat.le_mul_of_pos_right _ this) h
/-- Decimals come back from their numbers. -/
theorem dec_val {s : List UInt8} (h : okS s = true) : dec (val s) = s := by
  have key : ∀ (n : Nat) (t : List UInt8) (b : UInt8), t.length = n → isDig b = true → b ≠ 48 → t.all isDig = true → dec (val (b :: t)) = b :: t ∧ 0 < val (b :: t) := by
    intro n
    induction n with
    | zero =>
      intro t b hl hb h0 _
      obtain rfl : t = [] := List.eq_nil_of_length_eq_zero hl
      have e : val [b] = dv b := by simp [val]
      have hp : 0 < dv b := by
        have hb' := hb
        unfold isDig at hb'
        simp at hb'
        unfold dv
        rcases Nat.lt_or_ge 48 b.toNat with z | z
        · omega
        · exfalso
          apply h0
          apply UInt8.toNat_inj.1
          have h48 : (48 : UInt8).toNat = 48 := rfl
          omega
      rw [e, dec_lt (dv_lt hb), dc_dv hb]
      exact ⟨rfl, hp⟩
    | succ n ih =>
      intro t' b hl hb h0 ht
      rcases List.eq_nil_or_concat t' with rfl | ⟨t, c, rfl⟩
      · simp at hl
      · rw [List.concat_eq_append] at *
        rw [List.all_append] at ht
        simp at ht
        obtain ⟨i1, i2⟩ := ih t b (by simpa using hl) hb h0 (by simpa using ht.1)
        have e : val (b :: (t ++ [c])) = val (b :: t) * 10 + dv c := by rw [← List.cons_append, val_snoc]
        have hc := dv_lt ht.2
        rw [e, dec_ge (by omega), show (val (b :: t) * 10 + dv c) / 10 = val (b :: t) by omega, show (val (b :: t) * 10 + dv c) % 10 = dv c by omega, i1, dc_dv ht.2]
        exact ⟨rfl, by omega⟩
  unfold okS at h
  simp only [Bool.and_eq_true, Bool.or_eq_true, Bool.not_eq_true', decide_eq_false_iff_not, decide_eq_true_eq] at h
  obtain ⟨h1, h2, h3⟩ := h
  cases s with
  | nil => exact absurd rfl h2
  | cons b t =>
    simp only [List.all_cons, Bool.and_eq_true] at h1
    rcases h3 with h3 | h3
    · exact (key t.length t b rfl h1.1 (by simpa using h3) h1.2).1
    · have : t = [] := by simpa using h3
      subst this
      have e : val [b] = dv b := by simp [val]
      rw [e, dec_lt (dv_lt h1.1), dc_dv h1.1]
/-- Long decimals are great. -/
theorem val_big {s : List UInt8} (h : okS s = true) {k : Nat} (hk : k < s.length) (hk0 : 0 < k) : 10 ^ k ≤ val s := by
  have h1 := dec_val h
  rcases Nat.lt_or_ge (val s) (10 ^ k) with z | z
  · have := dec_len hk0 z
    rw [h1] at this
    omega
  · exact z
/-! Which is greater -/
theorem less_snoc (x y : List UInt8) (a b : UInt8) (h : x.length = y.length) : Op.bytesLess (x ++ [a]) (y ++ [b]) = (Op.bytesLess x y || (decide (x = y) && decide (a < b))) := by
  induction x generalizing y with
  | nil =>
    cases y with
    | nil =>
      show Op.bytesLess [a] [b] = _
      simp [Op.bytesLess]
    | cons _ _ => simp at h
  | cons c x ih =>
    cases y with
    | nil => simp at h
    | cons d y =>
      simp only [List.length_cons, Nat.add_right_cancel_iff] at h
      simp only [List.cons_append, Op.bytesLess, ih y h]
      by_cases h1 : c = d
      · subst h1
        simp
      · have hcd : (c == d) = false := by simp [h1]
        rw [hcd]
        simp [h1]
theorem dc_lt {a b : Nat} (ha : a < 10) (hb : b < 10) : (dc a < dc b) ↔ a < b := by
  rw [UInt8.lt_iff_toNat_lt, dc_nat ha, dc_nat hb]
  omega
theorem dec_inj {a b : Nat} (h : dec a = dec b) : a = b := by rw [← val_dec a, h, val_dec]
theorem dec_less {a : Nat} : ∀ {b : Nat}, (dec a).length = (dec b).length → (Op.bytesLess (dec a) (dec b) = true ↔ a < b) := by
  induction a using Nat.strongRecOn with
  | _ a ih =>
    intro b h
    rcases Nat.lt_or_ge a 10 with h1 | h1
    · rcases Nat.lt_or_ge b 10 with h2 | h2
      · rw [dec_lt h1, dec_lt h2]
        have := dc_lt h1 h2
        simp [Op.bytesLess, this]
      · rw [dec_lt h1, dec_ge h2] at h
        have := dec_pos (b / 10)
        simp only [List.length_append, List.length_singleton] at h
        omega
    · rcases Nat.lt_or_ge b 10 with h2 | h2
      · rw [dec_ge h1, dec_lt h2] at h
        have := dec_pos (a / 10)
        simp only [List.length_append, List.length_singleton] at h
        omega
      · rw [dec_ge h1, dec_ge h2] at h ⊢
        have hl : (dec (a / 10)).length = (dec (b / 10)).length := by simpa using h
        rw [less_snoc _ _ _ _ hl]
        have i1 := ih (a / 10) (by omega) hl
        have i2 := dc_lt (show a % 10 < 10 by omega) (show b % 10 < 10 by omega)
        have i3 : dec (a / 10) = dec (b / 10) ↔ a / 10 = b / 10 := ⟨dec_inj, fun h => by rw [h]⟩
        simp only [Bool.or_eq_true, Bool.and_eq_true, decide_eq_true_eq, i1, i2, i3]
        omega
theorem dec_shorter {a b : Nat} (h : (dec a).length < (dec b).length) : a < b := by
  rcases Nat.lt_or_ge a b with z | z
  · exact z
  · exfalso
    have h2 : ∀ n, ∀ m, m ≤ n → (dec m).length ≤ (dec n).length := by
      intro n
      induction n using Nat.strongRecOn with
      | _ n ih =>
        intro m hm
        rcases Nat.lt_or_ge m 10 with h1 | h1
        · rw [dec_lt h1, List.length_singleton]; have := dec_pos n; omega
        · rw [dec_ge h1, dec_ge (show 10 ≤ n by omega)]
          have := ih (n / 10) (by omega) (m / 10) (by omega)
          simpa using this
    have := h2 a b z
    omega
end Go.Proofs.Ytnbckkpflmpnlaa.Dec
