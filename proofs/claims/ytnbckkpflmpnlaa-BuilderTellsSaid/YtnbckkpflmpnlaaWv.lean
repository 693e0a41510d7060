/-
  Wide numbers as values: a number below two to the power of 256, and its four words. No conditions.
-/
import Derived.Test.YtnbckkpflmpnlaaEq
import Derived.Laws.Externs
namespace Go.Proofs.Ytnbckkpflmpnlaa.Eng
open Go Go.RowKit
set_option linter.unusedVariables false

def wv (n : Int) : List Value := [.int .u64 (n % 18446744073709551616), .int .u64 (n / 18446744073709551616 % 18446744073709551616), .int .u64 (n / 340282366920938463463374607431768211456 % 18446744073709551616), .int .u64 (n / 6277101735386680763835789423207666416102355444464034512896 % 18446744073709551616)]
/-- A number that is wide. -/
def Wd (n : Int) : Prop := 0 ≤ n ∧ n < 115792089237316195423570985008687907853269984665640564039457584007913129639936
/-- A word. -/
def Wo (n : Int) : Prop := 0 ≤ n ∧ n < 18446744073709551616

theorem wv_words {x0 x1 x2 x3 : Int} (h0 : Wo x0) (h1 : Wo x1) (h2 : Wo x2) (h3 : Wo x3) :
    wv (x0 + 18446744073709551616 * x1 + 340282366920938463463374607431768211456 * x2 + 6277101735386680763835789423207666416102355444464034512896 * x3) = [.int .u64 x0, .int .u64 x1, .int .u64 x2, .int .u64 x3] := by
  unfold Wo at *
  simp only [wv, List.cons.injEq, Value.int.injEq, true_and, and_true]
  refine ⟨?_, ?_, ?_, ?_⟩ <;> omega
theorem wd_words {n : Int} (h : Wd n) : ∃ x0 x1 x2 x3, Wo x0 ∧ Wo x1 ∧ Wo x2 ∧ Wo x3 ∧ n = x0 + 18446744073709551616 * x1 + 340282366920938463463374607431768211456 * x2 + 6277101735386680763835789423207666416102355444464034512896 * x3 := by
  unfold Wd at h
  unfold Wo
  refine ⟨n % 18446744073709551616, n / 18446744073709551616 % 18446744073709551616, n / 340282366920938463463374607431768211456 % 18446744073709551616, n / 6277101735386680763835789423207666416102355444464034512896 % 18446744073709551616, ?_, ?_, ?_, ?_, ?_⟩
  all_goals omega
theorem wd_of {x0 x1 x2 x3 : Int} (h0 : Wo x0) (h1 : Wo x1) (h2 : Wo x2) (h3 : Wo x3) : Wd (x0 + 18446744073709551616 * x1 + 340282366920938463463374607431768211456 * x2 + 6277101735386680763835789423207666416102355444464034512896 * x3) := by
  unfold Wo at *
  unfold Wd
  omega
theorem wv_inj {a b : Int} (ha : Wd a) (hb : Wd b) : wv a = wv b ↔ a = b := by
  constructor
  · intro h
    simp only [wv, List.cons.injEq, Value.int.injEq, true_and, and_true] at h
    unfold Wd at *
    omega
  · rintro rfl; rfl
theorem wv_small {n : Int} (h : Wo n) : wv n = [.int .u64 n, .int .u64 0, .int .u64 0, .int .u64 0] := by
  have := wv_words h (x1 := 0) (x2 := 0) (x3 := 0) (by unfold Wo; omega) (by unfold Wo; omega) (by unfold Wo; omega)
  simpa using this
theorem wv_zero : wv 0 = [.int .u64 0, .int .u64 0, .int .u64 0, .int .u64 0] := rfl
theorem wv_length (n : Int) : (wv n).length = 4 := rfl
theorem wv_take (n : Int) : (wv n).take 4 = wv n := rfl
theorem wv_drop (n : Int) : (wv n).drop 4 = [] := rfl
/-- Many wide numbers, one behind the other. -/
def wvs (ns : Nat → Int) : Nat → List Value
  | 0 => []
  | k + 1 => wvs ns k ++ wv (ns k)
theorem wvs_length (ns : Nat → Int) : ∀ k, (wvs ns k).length = k * 4
  | 0 => rfl
  | k + 1 => by rw [wvs, List.length_append, wvs_length ns k, wv_length]; omega
theorem wvs_get {ns : Nat → Int} : ∀ {m k off : Nat}, off = 4 * k → k < m → ((wvs ns m).drop off).take 4 = wv (ns k)
  | 0, k, _, _, h => by omega
  | m + 1, k, off, he, h => by
    subst he
    rcases Nat.lt_or_ge k m with h1 | h1
    · rw [wvs, List.drop_append_of_le_length (by rw [wvs_length]; omega), List.take_append_of_le_length (by rw [List.length_drop, wvs_length]; omega)]
      exact wvs_get rfl h1
    · have : k = m := by omega
      subst this
      rw [wvs, List.drop_append, List.drop_eq_nil_of_le (by rw [wvs_length]; omega), wvs_length]
      rw [show 4 * k - k * 4 = 0 by omega]
      rfl
def upd (ns : Nat → Int) (k : Nat) (x : Int) : Nat → Int := fun j => if j = k then x else ns j
theorem wvs_same {ns ms : Nat → Int} : ∀ {m : Nat}, (∀ j, j < m → ns j = ms j) → wvs ns m = wvs ms m
  | 0, _ => rfl
  | m + 1, h => by rw [wvs, wvs, wvs_same fun j hj => h j (Nat.lt_succ_of_lt hj), h m (Nat.lt_succ_self m)]
theorem wvs_set {ns : Nat → Int} {x : Int} : ∀ {m k off : Nat}, off = 4 * k → k < m → splice (wvs ns m) off (wv x) = wvs (upd ns k x) m
  | 0, k, _, _, h => by omega
  | m + 1, k, off, he, h => by
    subst he
    rcases Nat.lt_or_ge k m with h1 | h1
    · have ih := wvs_set (ns := ns) (x := x) (m := m) (k := k) rfl h1
      rw [wvs, wvs, ← ih]
      unfold splice
      rw [wv_length, List.take_append_of_le_length (by rw [wvs_length]; omega), List.drop_append_of_le_length (by rw [wvs_length]; omega)]
      have : upd ns k x m = ns m := if_neg (by omega)
      rw [this]
      simp only [List.append_assoc]
    · have : k = m := by omega
      subst this
      rw [wvs, wvs]
      have e1 : wvs (upd ns k x) k = wvs ns k := wvs_same fun j hj => if_neg (by omega)
      have e2 : upd ns k x k = x := if_pos rfl
      rw [e1, e2]
      unfold splice
      rw [wv_length, List.take_append, List.take_of_length_le (by rw [wvs_length]; omega), wvs_length, show 4 * k - k * 4 = 0 by omega, List.drop_eq_nil_of_le (by rw [List.length_append, wvs_length, wv_length]; omega)]
      simp
theorem wvs_row {ns : Nat → Int} {m a off : Nat} (he : off = 8 * a) (h : 2 * a + 1 < m) : ((wvs ns m).drop off).take 8 = wvs (fun j => ns (2 * a + j)) 2 := by
  subst he
  have h1 := wvs_get (ns := ns) (m := m) (k := 2 * a) (off := 4 * (2 * a)) rfl (by omega)
  have h2 := wvs_get (ns := ns) (m := m) (k := 2 * a + 1) (off := 4 * (2 * a + 1)) rfl h
  simp only [wvs, List.nil_append]
  rw [show (8 : Nat) = 4 + 4 from rfl, List.take_add, List.drop_drop]
  rw [show (4 + 4) * a = 4 * (2 * a) by omega, h1, show 4 * (2 * a) + 4 = 4 * (2 * a + 1) by omega, h2]
  rfl
theorem wvs_inj {ns ms : Nat → Int} : ∀ {m : Nat}, (∀ j, j < m → Wd (ns j)) → (∀ j, j < m → Wd (ms j)) → (wvs ns m = wvs ms m ↔ ∀ j, j < m → ns j = ms j)
  | 0, _, _ => ⟨fun _ j hj => by omega, fun _ => rfl⟩
  | m + 1, h1, h2 => by
    constructor
    · intro e
      rw [wvs, wvs] at e
      obtain ⟨e1, e2⟩ := List.append_inj e (by rw [wvs_length, wvs_length])
      have i1 := (wvs_inj (fun j hj => h1 j (Nat.lt_succ_of_lt hj)) (fun j hj => h2 j (Nat.lt_succ_of_lt hj))).1 e1
      have i2 := (wv_inj (h1 m (Nat.lt_succ_self m)) (h2 m (Nat.lt_succ_self m))).1 e2
      intro j hj
      rcases Nat.lt_or_ge j m with h | h
      · exact i1 j h
      · have : j = m := by omega
        subst this; exact i2
    · exact wvs_same

theorem wv_ones (n : Int) : (wv n).all (·.oneCell') = true := rfl
theorem wvs_ones (ns : Nat → Int) : ∀ k, (wvs ns k).all (·.oneCell') = true
  | 0 => rfl
  | k + 1 => by rw [wvs, List.all_append, wvs_ones ns k, wv_ones]; rfl
/-- How cells are told. -/
theorem nl : (∀ (C : List Value) (o : Nat) (vs : List Value), splice C o vs = C.take o ++ vs ++ C.drop (o + vs.length)) ∧ (∀ (k : IntKind) (n : Int), (Value.int k n).cells.toList = [.int k n]) ∧ (∀ b : Bool, (Value.bool b).cells.toList = [.bool b]) ∧ (∀ b : ByteArray, (Value.string b).cells.toList = [.string b]) ∧
    (∀ a : Option Addr, (Value.pointer a).cells.toList = [.pointer a]) ∧ (∀ (a : Option Addr) (n m : Nat), (Value.slice a n m).cells.toList = [.slice a n m]) ∧ (∀ l : List Value, (Value.agg l.toArray).cells.toList = l) ∧
    (∀ (n : Nat) (a : Value) (l : List Value), List.take (n + 1) (a :: l) = a :: List.take n l) ∧ (∀ l : List Value, List.take 0 l = []) ∧ (∀ n : Nat, List.take n ([] : List Value) = []) ∧
    (∀ (n : Nat) (a : Value) (l : List Value), List.drop (n + 1) (a :: l) = List.drop n l) ∧ (∀ l : List Value, List.drop 0 l = l) ∧ (∀ n : Nat, List.drop n ([] : List Value) = []) ∧
    (∀ (a : Value) (l : List Value), (a :: l).length = l.length + 1) ∧ (([] : List Value).length = 0) ∧ (∀ l : List Value, [] ++ l = l) ∧ (∀ (a : Value) (l m : List Value), (a :: l) ++ m = a :: (l ++ m)) ∧ (∀ l : List Value, l ++ [] = l) ∧
    (∀ n : Nat, 0 + n = n) ∧ (∀ n : Nat, n + 0 = n) ∧ (∀ n : Nat, n * 1 = n) ∧ (∀ n : Nat, 0 * n = 0) ∧ ((0 : Int).toNat = 0) ∧ ((1 : Int).toNat = 1) ∧ (∀ n : Nat, (n : Int).toNat = n) ∧
    (∀ (a b : Value) (l : List Value), (a :: l).set 0 b = b :: l) ∧ (∀ (a b : Value) (l : List Value) (n : Nat), (a :: l).set (n + 1) b = a :: l.set n b) ∧ (∀ n : Int, (wv n).length = 4) ∧ (∀ n : Int, (wv n).take 4 = wv n) ∧ (∀ n : Int, (wv n).drop 4 = []) ∧
    (∀ ns : Nat → Int, (wvs ns 16).length = 64) ∧ (∀ ns : Nat → Int, (wvs ns 16).take 64 = wvs ns 16) ∧ (∀ ns : Nat → Int, (wvs ns 16).drop 64 = []) ∧ (∀ ns : Nat → Int, (wvs ns 2).length = 8) ∧ (∀ ns : Nat → Int, (wvs ns 2).take 8 = wvs ns 2) ∧ (∀ ns : Nat → Int, (wvs ns 2).drop 8 = []) := by
  refine ⟨fun _ _ _ => rfl, fun _ _ => rfl, fun _ => rfl, fun _ => rfl, fun _ => rfl, fun _ _ _ => rfl, fun _ => rfl, fun _ _ _ => rfl, fun _ => rfl, fun _ => List.take_nil, fun _ _ _ => rfl, fun _ => rfl, fun _ => List.drop_nil, fun _ _ => rfl, rfl, fun _ => rfl, fun _ _ _ => rfl, fun _ => List.append_nil _, fun _ => Nat.zero_add _, fun _ => rfl, fun _ => Nat.mul_one _, fun _ => Nat.zero_mul _, rfl, rfl, fun _ => rfl, fun _ _ _ => rfl, fun _ _ _ _ => rfl, fun _ => rfl, fun _ => rfl, fun _ => rfl, fun ns => wvs_length ns 16, fun ns => List.take_of_length_le (by rw [wvs_length]; decide), fun ns => List.drop_eq_nil_of_le (by rw [wvs_length]; decide), fun ns => wvs_length ns 2, fun ns => List.take_of_length_le (by rw [wvs_length]; decide), fun ns => List.drop_eq_nil_of_le (by rw [wvs_length]; decide)⟩
theorem wf_wo {x : Int} (h : (Lit.int .u64 x).wf = true) : Wo x := by
  have := wfu64 h
  unfold Wo; omega
theorem wo_wf {x : Int} (h : Wo x) : (Lit.int .u64 x).wf = true := by
  unfold Wo at h
  simp [Lit.wf, IntKind.min, IntKind.max, IntKind.signed, IntKind.bits]
  omega
abbrev wsh : List Sh := [.int .u64, .int .u64, .int .u64, .int .u64]
theorem wv_reads {W : World} (n : Int) : Sh.ReadsL W wsh (wv n) := by
  simp only [Sh.ReadsL, Sh.Reads, wv]
  refine ⟨_, _, rfl, ⟨_, rfl, wo_wf ?_⟩, _, _, rfl, ⟨_, rfl, wo_wf ?_⟩, _, _, rfl, ⟨_, rfl, wo_wf ?_⟩, _, _, rfl, ⟨_, rfl, wo_wf ?_⟩, rfl⟩
  all_goals (unfold Wo; omega)
theorem reads_wv {W : World} {cs : List Value} (h : Sh.ReadsL W wsh cs) : ∃ n, Wd n ∧ cs = wv n := by
  simp only [Sh.ReadsL, Sh.Reads] at h
  obtain ⟨_, _, rfl, ⟨x0, rfl, h0⟩, _, _, rfl, ⟨x1, rfl, h1⟩, _, _, rfl, ⟨x2, rfl, h2⟩, _, _, rfl, ⟨x3, rfl, h3⟩, rfl⟩ := h
  exact ⟨_, wd_of (wf_wo h0) (wf_wo h1) (wf_wo h2) (wf_wo h3), (wv_words (wf_wo h0) (wf_wo h1) (wf_wo h2) (wf_wo h3)).symm⟩
/-- Two wide values, held against each other. -/
theorem wv_eq {P : Program} {T : TypeId} (hf : flat P 3 T = some wsh) (hk : P.keyTypeAt 3 T = true) (hs : (match P.underlying T with | some (.struct _) | some (.array _ _) => true | _ => false) = true) (hc : 4 = P.cellsOf T) {a b : Int} (ha : Wd a) (hb : Wd b) (w : World) :
    (Op.equal T (.agg (wv a).toArray) (.agg (wv b).toArray)).run P w = .ok (decide (a = b)) w :=
  eq_flat (W := w) hf rfl hk hs hc (by decide) (wv_reads a) (wv_reads b) (by rw [decide_eq_true_eq, wv_inj ha hb]) w

theorem add_words {a0 a1 a2 a3 b0 b1 b2 b3 s0 s1 s2 s3 c0 c1 c2 c3 : Int} (ha0 : Wo a0) (ha1 : Wo a1) (ha2 : Wo a2) (ha3 : Wo a3) (hb0 : Wo b0) (hb1 : Wo b1) (hb2 : Wo b2) (hb3 : Wo b3) (h0 : Wo s0) (h1 : Wo s1) (h2 : Wo s2) (h3 : Wo s3)
    (e0 : a0 + b0 = s0 + 18446744073709551616 * c0) (e1 : a1 + b1 + c0 = s1 + 18446744073709551616 * c1) (e2 : a2 + b2 + c1 = s2 + 18446744073709551616 * c2) (e3 : a3 + b3 + c2 = s3 + 18446744073709551616 * c3) :
    (c3 = 0 → (Wd ((a0 + 18446744073709551616 * a1 + 340282366920938463463374607431768211456 * a2 + 6277101735386680763835789423207666416102355444464034512896 * a3) + (b0 + 18446744073709551616 * b1 + 340282366920938463463374607431768211456 * b2 + 6277101735386680763835789423207666416102355444464034512896 * b3)) ∧
      wv ((a0 + 18446744073709551616 * a1 + 340282366920938463463374607431768211456 * a2 + 6277101735386680763835789423207666416102355444464034512896 * a3) + (b0 + 18446744073709551616 * b1 + 340282366920938463463374607431768211456 * b2 + 6277101735386680763835789423207666416102355444464034512896 * b3)) = [.int .u64 s0, .int .u64 s1, .int .u64 s2, .int .u64 s3])) ∧
    (¬ c3 = 0 → ¬ Wd ((a0 + 18446744073709551616 * a1 + 340282366920938463463374607431768211456 * a2 + 6277101735386680763835789423207666416102355444464034512896 * a3) + (b0 + 18446744073709551616 * b1 + 340282366920938463463374607431768211456 * b2 + 6277101735386680763835789423207666416102355444464034512896 * b3))) := by
  constructor
  · intro hc
    have : (a0 + 18446744073709551616 * a1 + 340282366920938463463374607431768211456 * a2 + 6277101735386680763835789423207666416102355444464034512896 * a3) + (b0 + 18446744073709551616 * b1 + 340282366920938463463374607431768211456 * b2 + 6277101735386680763835789423207666416102355444464034512896 * b3) = s0 + 18446744073709551616 * s1 + 340282366920938463463374607431768211456 * s2 + 6277101735386680763835789423207666416102355444464034512896 * s3 := by omega
    rw [this]
    exact ⟨wd_of h0 h1 h2 h3, wv_words h0 h1 h2 h3⟩
  · intro hc
    unfold Wo at *
    unfold Wd
    omega

def wadd (a b : Int) : Int := if a + b < 115792089237316195423570985008687907853269984665640564039457584007913129639936 then a + b else 0
def wsub (a b : Int) : Int := if b ≤ a then a - b else 0
theorem wadd_comm (a b : Int) : wadd a b = wadd b a := by unfold wadd; rw [Int.add_comm]
theorem wadd_lt {a b : Int} (h : a + b < 115792089237316195423570985008687907853269984665640564039457584007913129639936) : wadd a b = a + b := if_pos h
theorem wadd_ge {a b : Int} (h : ¬ a + b < 115792089237316195423570985008687907853269984665640564039457584007913129639936) : wadd a b = 0 := if_neg h
theorem wsub_le {a b : Int} (h : b ≤ a) : wsub a b = a - b := if_pos h
theorem wsub_gt {a b : Int} (h : ¬ b ≤ a) : wsub a b = 0 := if_neg h
theorem wadd_wd {a b : Int} (ha : Wd a) (hb : Wd b) : Wd (wadd a b) := by unfold wadd Wd at *; split <;> omega
theorem wsub_wd {a b : Int} (ha : Wd a) (hb : Wd b) : Wd (wsub a b) := by unfold wsub Wd at *; split <;> omega
theorem sub_words {a0 a1 a2 a3 b0 b1 b2 b3 s0 s1 s2 s3 c0 c1 c2 c3 : Int} (ha0 : Wo a0) (ha1 : Wo a1) (ha2 : Wo a2) (ha3 : Wo a3) (hb0 : Wo b0) (hb1 : Wo b1) (hb2 : Wo b2) (hb3 : Wo b3) (h0 : Wo s0) (h1 : Wo s1) (h2 : Wo s2) (h3 : Wo s3)
    (e0 : a0 - b0 = s0 - 18446744073709551616 * c0) (e1 : a1 - b1 - c0 = s1 - 18446744073709551616 * c1) (e2 : a2 - b2 - c1 = s2 - 18446744073709551616 * c2) (e3 : a3 - b3 - c2 = s3 - 18446744073709551616 * c3) :
    (c3 = 0 → ((b0 + 18446744073709551616 * b1 + 340282366920938463463374607431768211456 * b2 + 6277101735386680763835789423207666416102355444464034512896 * b3) ≤ (a0 + 18446744073709551616 * a1 + 340282366920938463463374607431768211456 * a2 + 6277101735386680763835789423207666416102355444464034512896 * a3) ∧ wv ((a0 + 18446744073709551616 * a1 + 340282366920938463463374607431768211456 * a2 + 6277101735386680763835789423207666416102355444464034512896 * a3) - (b0 + 18446744073709551616 * b1 + 340282366920938463463374607431768211456 * b2 + 6277101735386680763835789423207666416102355444464034512896 * b3)) = [.int .u64 s0, .int .u64 s1, .int .u64 s2, .int .u64 s3])) ∧ (¬ c3 = 0 → ¬ (b0 + 18446744073709551616 * b1 + 340282366920938463463374607431768211456 * b2 + 6277101735386680763835789423207666416102355444464034512896 * b3) ≤ (a0 + 18446744073709551616 * a1 + 340282366920938463463374607431768211456 * a2 + 6277101735386680763835789423207666416102355444464034512896 * a3)) := by
  constructor
  · intro hc
    have : (a0 + 18446744073709551616 * a1 + 340282366920938463463374607431768211456 * a2 + 6277101735386680763835789423207666416102355444464034512896 * a3) - (b0 + 18446744073709551616 * b1 + 340282366920938463463374607431768211456 * b2 + 6277101735386680763835789423207666416102355444464034512896 * b3) = (s0 + 18446744073709551616 * s1 + 340282366920938463463374607431768211456 * s2 + 6277101735386680763835789423207666416102355444464034512896 * s3) := by omega
    rw [this]
    refine ⟨?_, wv_words h0 h1 h2 h3⟩
    unfold Wo at *
    omega
  · intro hc
    unfold Wo at *
    omega

/-- Cells of wide numbers, out of what came in. -/
def wshs : Nat → List Sh
  | 0 => []
  | k + 1 => wshs k ++ wsh
theorem wshs_length : ∀ k, (wshs k).length = k * 4
  | 0 => rfl
  | k + 1 => by rw [wshs, List.length_append, wshs_length k]; simp; omega
theorem wvs_reads {W : World} {ns : Nat → Int} : ∀ k, Sh.ReadsL W (wshs k) (wvs ns k)
  | 0 => rfl
  | k + 1 => by
    have h1 := wvs_reads (W := W) (ns := ns) k
    have h2 := wv_reads (W := W) (ns k)
    rw [wshs, wvs]
    refine Sh.ReadsL.append ?_ ?_
    · rw [List.take_append_of_le_length (by rw [wshs_length, wvs_length]; omega), List.take_of_length_le (by rw [wshs_length, wvs_length]; omega)]
      exact h1
    · rw [List.drop_append, List.drop_eq_nil_of_le (by rw [wshs_length, wvs_length]; omega), wshs_length, wvs_length, Nat.sub_self]
      exact h2
theorem reads_wvs {W : World} : ∀ {k : Nat} {cs : List Value}, Sh.ReadsL W (wshs k) cs → ∃ ns : Nat → Int, (∀ j, Wd (ns j)) ∧ cs = wvs ns k
  | 0, cs, h => ⟨fun _ => 0, fun _ => (by unfold Wd; omega : Wd 0), h⟩
  | k + 1, cs, h => by
    rw [wshs] at h
    obtain ⟨h1, h2⟩ := ReadsL_split h
    obtain ⟨ns, hn, e1⟩ := reads_wvs h1
    obtain ⟨x, hx, e2⟩ := reads_wv h2
    refine ⟨upd ns k x, fun j => ?_, ?_⟩
    · unfold upd
      split
      · exact hx
      · exact hn j
    have e3 : wvs (upd ns k x) k = wvs ns k := wvs_same fun j hj => if_neg (by omega)
    rw [wvs, e3, show upd ns k x k = x from if_pos rfl, ← e1, ← e2, List.take_append_drop]
theorem wvs_eq {P : Program} {T m : Nat} (hf : flat P 5 T = some (wshs m)) (hp : (wshs m).all Sh.plain = true) (hk : P.keyTypeAt 5 T = true) (hs : (match P.underlying T with | some (.struct _) | some (.array _ _) => true | _ => false) = true) (hc : (wshs m).length = P.cellsOf T) {ns ms : Nat → Int} {b : Bool} (h1 : ∀ j, j < m → Wd (ns j)) (h2 : ∀ j, j < m → Wd (ms j)) (hb : b = true ↔ ∀ j, j < m → ns j = ms j) (w : World) :
    (Op.equal T (.agg (wvs ns m).toArray) (.agg (wvs ms m).toArray)).run P w = .ok b w :=
  eq_flat (W := w) hf hp hk hs hc (by decide) (wvs_reads m) (wvs_reads m) (by rw [hb, wvs_inj h1 h2]) w
end Go.Proofs.Ytnbckkpflmpnlaa.Eng
