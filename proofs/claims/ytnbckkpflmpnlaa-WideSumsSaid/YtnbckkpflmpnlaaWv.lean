/-
  Wide numbers as values: a number below two to the power of 256, and its four words. No conditions.
-/
import Derived.Test.YtnbckkpflmpnlaaEq
import Derived.Laws.Externs
namespace Go.Proofs.Ytnbckkpflmpnlaa.Eng
open Go Go.RowKit
set_option linter.unusedVariables false

def wv (n : Int) : List Value := [.int .u64 (n % 18446744073709551616), .int .u64 (n / 18446744073709551616 % 18446744073709551616), .int .u64 (n / 340282366920938463463374607431768211456 % 18446744073709551616), .int .u64 (n / 6277101735386680763835789423207666416102355444464034512896 % 18446744073709551616)]
/-- A number that is wide. -/
def Wd (n : Int) : Prop := 0 ≤ n ∧ n < 115792089237316195423570985008687907853269984665640564039457584007913129639936
/-- A word. -/
def Wo (n : Int) : Prop := 0 ≤ n ∧ n < 18446744073709551616

theorem wv_words {x0 x1 x2 x3 : Int} (h0 : Wo x0) (h1 : Wo x1) (h2 : Wo x2) (h3 : Wo x3) :
    wv (x0 + 18446744073709551616 * x1 + 340282366920938463463374607431768211456 * x2 + 6277101735386680763835789423207666416102355444464034512896 * x3) = [.int .u64 x0, .int .u64 x1, .int .u64 x2, .int .u64 x3] := by
  unfold Wo at *
  simp only [wv, List.cons.injEq, Value.int.injEq, true_and, and_true]
  refine ⟨?_, ?_, ?_, ?_⟩ <;> omega
theorem wd_words {n : Int} (h : Wd n) : ∃ x0 x1 x2 x3, Wo x0 ∧ Wo x1 ∧ Wo x2 ∧ Wo x3 ∧ n = x0 + 18446744073709551616 * x1 + 340282366920938463463374607431768211456 * x2 + 6277101735386680763835789423207666416102355444464034512896 * x3 := by
  unfold Wd at h
  unfold Wo
  refine ⟨n % 18446744073709551616, n / 18446744073709551616 % 18446744073709551616, n / 340282366920938463463374607431768211456 % 18446744073709551616, n / 6277101735386680763835789423207666416102355444464034512896 % 18446744073709551616, ?_, ?_, ?_, ?_, ?_⟩
  all_goals omega
theorem wd_of {x0 x1 x2 x3 : Int} (h0 : Wo x0) (h1 : Wo x1) (h2 : Wo x2) (h3 : Wo x3) : Wd (x0 + 18446744073709551616 * x1 + 340282366920938463463374607431768211456 * x2 + 6277101735386680763835789423207666416102355444464034512896 * x3) := by
  unfold Wo at *
  unfold Wd
  omega
theorem wv_inj {a b : Int} (ha : Wd a) (hb : Wd b) : wv a = wv b ↔ a = b := by
  constructor
  · intro h
    simp only [wv, List.cons.injEq, Value.int.injEq, true_and, and_true] at h
    unfold Wd at *
    omega
  · rintro rfl; rfl
theorem wv_small {n : Int} (h : Wo n) : wv n = [.int .u64 n, .int .u64 0, .int .u64 0, .int .u64 0] := by
  have := wv_words h (x1 := 0) (x2 := 0) (x3 := 0) (by unfold Wo; omega) (by unfold Wo; omega) (by unfold Wo; omega)
  simpa using this
theorem wv_zero : wv 0 = [.int .u64 0, .int .u64 0, .int .u64 0, .int .u64 0] := rfl
theorem wv_length (n : Int) : (wv n).length = 4 := rfl
theorem wv_take (n : Int) : (wv n).take 4 = wv n := rfl
theorem wv_drop (n : Int) : (wv n).drop 4 = [] := rfl
/-- How cells are told. -/
theorem nl : (∀ (C : List Value) (o : Nat) (vs : List Value), splice C o vs = C.take o ++ vs ++ C.drop (o + vs.length)) ∧ (∀ (k : IntKind) (n : Int), (Value.int k n).cells.toList = [.int k n]) ∧ (∀ b : Bool, (Value.bool b).cells.toList = [.bool b]) ∧ (∀ b : ByteArray, (Value.string b).cells.toList = [.string b]) ∧
    (∀ a : Option Addr, (Value.pointer a).cells.toList = [.pointer a]) ∧ (∀ (a : Option Addr) (n m : Nat), (Value.slice a n m).cells.toList = [.slice a n m]) ∧ (∀ l : List Value, (Value.agg l.toArray).cells.toList = l) ∧
    (∀ (n : Nat) (a : Value) (l : List Value), List.take (n + 1) (a :: l) = a :: List.take n l) ∧ (∀ l : List Value, List.take 0 l = []) ∧ (∀ n : Nat, List.take n ([] : List Value) = []) ∧
    (∀ (n : Nat) (a : Value) (l : List Value), List.drop (n + 1) (a :: l) = List.drop n l) ∧ (∀ l : List Value, List.drop 0 l = l) ∧ (∀ n : Nat, List.drop n ([] : List Value) = []) ∧
    (∀ (a : Value) (l : List Value), (a :: l).length = l.length + 1) ∧ (([] : List Value).length = 0) ∧ (∀ l : List Value, [] ++ l = l) ∧ (∀ (a : Value) (l m : List Value), (a :: l) ++ m = a :: (l ++ m)) ∧ (∀ l : List Value, l ++ [] = l) ∧
    (∀ n : Nat, 0 + n = n) ∧ (∀ n : Nat, n + 0 = n) ∧ (∀ n : Nat, n * 1 = n) ∧ (∀ n : Nat, 0 * n = 0) ∧ ((0 : Int).toNat = 0) ∧ ((1 : Int).toNat = 1) ∧ (∀ n : Nat, (n : Int).toNat = n) ∧
    (∀ (a b : Value) (l : List Value), (a :: l).set 0 b = b :: l) ∧ (∀ (a b : Value) (l : List Value) (n : Nat), (a :: l).set (n + 1) b = a :: l.set n b) ∧ (∀ n : Int, (wv n).length = 4) ∧ (∀ n : Int, (wv n).take 4 = wv n) ∧ (∀ n : Int, (wv n).drop 4 = []) := by
  refine ⟨fun _ _ _ => rfl, fun _ _ => rfl, fun _ => rfl, fun _ => rfl, fun _ => rfl, fun _ _ _ => rfl, fun _ => rfl, fun _ _ _ => rfl, fun _ => rfl, fun _ => List.take_nil, fun _ _ _ => rfl, fun _ => rfl, fun _ => List.drop_nil, fun _ _ => rfl, rfl, fun _ => rfl, fun _ _ _ => rfl, fun _ => List.append_nil _, fun _ => Nat.zero_add _, fun _ => rfl, fun _ => Nat.mul_one _, fun _ => Nat.zero_mul _, rfl, rfl, fun _ => rfl, fun _ _ _ => rfl, fun _ _ _ _ => rfl, fun _ => rfl, fun _ => rfl, fun _ => rfl⟩
theorem wf_wo {x : Int} (h : (Lit.int .u64 x).wf = true) : Wo x := by
  have := wfu64 h
  unfold Wo; omega
theorem wo_wf {x : Int} (h : Wo x) : (Lit.int .u64 x).wf = true := by
  unfold Wo at h
  simp [Lit.wf, IntKind.min, IntKind.max, IntKind.signed, IntKind.bits]
  omega
abbrev wsh : List Sh := [.int .u64, .int .u64, .int .u64, .int .u64]
theorem wv_reads {W : World} (n : Int) : Sh.ReadsL W wsh (wv n) := by
  simp only [Sh.ReadsL, Sh.Reads, wv]
  refine ⟨_, _, rfl, ⟨_, rfl, wo_wf ?_⟩, _, _, rfl, ⟨_, rfl, wo_wf ?_⟩, _, _, rfl, ⟨_, rfl, wo_wf ?_⟩, _, _, rfl, ⟨_, rfl, wo_wf ?_⟩, rfl⟩
  all_goals (unfold Wo; omega)
theorem reads_wv {W : World} {cs : List Value} (h : Sh.ReadsL W wsh cs) : ∃ n, Wd n ∧ cs = wv n := by
  simp only [Sh.ReadsL, Sh.Reads] at h
  obtain ⟨_, _, rfl, ⟨x0, rfl, h0⟩, _, _, rfl, ⟨x1, rfl, h1⟩, _, _, rfl, ⟨x2, rfl, h2⟩, _, _, rfl, ⟨x3, rfl, h3⟩, rfl⟩ := h
  exact ⟨_, wd_of (wf_wo h0) (wf_wo h1) (wf_wo h2) (wf_wo h3), (wv_words (wf_wo h0) (wf_wo h1) (wf_wo h2) (wf_wo h3)).symm⟩
/-- Two wide values, held against each other. -/
theorem wv_eq {P : Program} {T : TypeId} (hf : flat P 3 T = some wsh) (hk : P.keyTypeAt 3 T = true) (hs : (match P.underlying T with | some (.struct _) | some (.array _ _) => true | _ => false) = true) (hc : 4 = P.cellsOf T) {a b : Int} (ha : Wd a) (hb : Wd b) (w : World) :
    (Op.equal T (.agg (wv a).toArray) (.agg (wv b).toArray)).run P w = .ok (decide (a = b)) w :=
  eq_flat (W := w) hf rfl hk hs hc (by decide) (wv_reads a) (wv_reads b) (by rw [decide_eq_true_eq, wv_inj ha hb]) w

theorem add_words {a0 a1 a2 a3 b0 b1 b2 b3 s0 s1 s2 s3 c0 c1 c2 c3 : Int} (ha0 : Wo a0) (ha1 : Wo a1) (ha2 : Wo a2) (ha3 : Wo a3) (hb0 : Wo b0) (hb1 : Wo b1) (hb2 : Wo b2) (hb3 : Wo b3) (h0 : Wo s0) (h1 : Wo s1) (h2 : Wo s2) (h3 : Wo s3)
    (e0 : a0 + b0 = s0 + 18446744073709551616 * c0) (e1 : a1 + b1 + c0 = s1 + 18446744073709551616 * c1) (e2 : a2 + b2 + c1 = s2 + 18446744073709551616 * c2) (e3 : a3 + b3 + c2 = s3 + 18446744073709551616 * c3) :
    (c3 = 0 → (Wd ((a0 + 18446744073709551616 * a1 + 340282366920938463463374607431768211456 * a2 + 6277101735386680763835789423207666416102355444464034512896 * a3) + (b0 + 18446744073709551616 * b1 + 340282366920938463463374607431768211456 * b2 + 6277101735386680763835789423207666416102355444464034512896 * b3)) ∧
      wv ((a0 + 18446744073709551616 * a1 + 340282366920938463463374607431768211456 * a2 + 6277101735386680763835789423207666416102355444464034512896 * a3) + (b0 + 18446744073709551616 * b1 + 340282366920938463463374607431768211456 * b2 + 6277101735386680763835789423207666416102355444464034512896 * b3)) = [.int .u64 s0, .int .u64 s1, .int .u64 s2, .int .u64 s3])) ∧
    (¬ c3 = 0 → ¬ Wd ((a0 + 18446744073709551616 * a1 + 340282366920938463463374607431768211456 * a2 + 6277101735386680763835789423207666416102355444464034512896 * a3) + (b0 + 18446744073709551616 * b1 + 340282366920938463463374607431768211456 * b2 + 6277101735386680763835789423207666416102355444464034512896 * b3))) := by
  constructor
  · intro hc
    have : (a0 + 18446744073709551616 * a1 + 340282366920938463463374607431768211456 * a2 + 6277101735386680763835789423207666416102355444464034512896 * a3) + (b0 + 18446744073709551616 * b1 + 340282366920938463463374607431768211456 * b2 + 6277101735386680763835789423207666416102355444464034512896 * b3) = s0 + 18446744073709551616 * s1 + 340282366920938463463374607431768211456 * s2 + 6277101735386680763835789423207666416102355444464034512896 * s3 := by omega
    rw [this]
    exact ⟨wd_of h0 h1 h2 h3, wv_words h0 h1 h2 h3⟩
  · intro hc
    unfold Wo at *
    unfold Wd
    omega

def wadd (a b : Int) : Int := if a + b < 115792089237316195423570985008687907853269984665640564039457584007913129639936 then a + b else 0
def wsub (a b : Int) : Int := if b ≤ a then a - b else 0
theorem wadd_comm (a b : Int) : wadd a b = wadd b a := by unfold wadd; rw [Int.add_comm]
theorem wadd_lt {a b : Int} (h : a + b < 115792089237316195423570985008687907853269984665640564039457584007913129639936) : wadd a b = a + b := if_pos h
theorem wadd_ge {a b : Int} (h : ¬ a + b < 115792089237316195423570985008687907853269984665640564039457584007913129639936) : wadd a b = 0 := if_neg h
theorem wsub_le {a b : Int} (h : b ≤ a) : wsub a b = a - b := if_pos h
theorem wsub_gt {a b : Int} (h : ¬ b ≤ a) : wsub a b = 0 := if_neg h
theorem wadd_wd {a b : Int} (ha : Wd a) (hb : Wd b) : Wd (wadd a b) := by unfold wadd Wd at *; split <;> omega
theorem wsub_wd {a b : Int} (ha : Wd a) (hb : Wd b) : Wd (wsub a b) := by unfold wsub Wd at *; split <;> omega
theorem sub_words {a0 a1 a2 a3 b0 b1 b2 b3 s0 s1 s2 s3 c0 c1 c2 c3 : Int} (ha0 : Wo a0) (ha1 : Wo a1) (ha2 : Wo a2) (ha3 : Wo a3) (hb0 : Wo b0) (hb1 : Wo b1) (hb2 : Wo b2) (hb3 : Wo b3) (h0 : Wo s0) (h1 : Wo s1) (h2 : Wo s2) (h3 : Wo s3)
    (e0 : a0 - b0 = s0 - 18446744073709551616 * c0) (e1 : a1 - b1 - c0 = s1 - 18446744073709551616 * c1) (e2 : a2 - b2 - c1 = s2 - 18446744073709551616 * c2) (e3 : a3 - b3 - c2 = s3 - 18446744073709551616 * c3) :
    (c3 = 0 → ((b0 + 18446744073709551616 * b1 + 340282366920938463463374607431768211456 * b2 + 6277101735386680763835789423207666416102355444464034512896 * b3) ≤ (a0 + 18446744073709551616 * a1 + 340282366920938463463374607431768211456 * a2 + 6277101735386680763835789423207666416102355444464034512896 * a3) ∧ wv ((a0 + 18446744073709551616 * a1 + 340282366920938463463374607431768211456 * a2 + 6277101735386680763835789423207666416102355444464034512896 * a3) - (b0 + 18446744073709551616 * b1 + 340282366920938463463374607431768211456 * b2 + 6277101735386680763835789423207666416102355444464034512896 * b3)) = [.int .u64 s0, .int .u64 s1, .int .u64 s2, .int .u64 s3])) ∧ (¬ c3 = 0 → ¬ (b0 + 18446744073709551616 * b1 + 340282366920938463463374607431768211456 * b2 + 6277101735386680763835789423207666416102355444464034512896 * b3) ≤ (a0 + 18446744073709551616 * a1 + 340282366920938463463374607431768211456 * a2 + 6277101735386680763835789423207666416102355444464034512896 * a3)) := by
  constructor
  · intro hc
    have : (a0 + 18446744073709551616 * a1 + 340282366920938463463374607431768211456 * a2 + 6277101735386680763835789423207666416102355444464034512896 * a3) - (b0 + 18446744073709551616 * b1 + 340282366920938463463374607431768211456 * b2 + 6277101735386680763835789423207666416102355444464034512896 * b3) = (s0 + 18446744073709551616 * s1 + 340282366920938463463374607431768211456 * s2 + 6277101735386680763835789423207666416102355444464034512896 * s3) := by omega
    rw [this]
    refine ⟨?_, wv_words h0 h1 h2 h3⟩
    unfold Wo at *
    omega
  · intro hc
    unfold Wo at *
    omega
end Go.Proofs.Ytnbckkpflmpnlaa.Eng
