/-
  Signatures that may be made once: what is computed. No conditions.
-/
import Derived.Test.YtfcaeifpclpnoaaQWide
import Derived.Test.YtfcaeifpclpnoaaQHsum
import Derived.Test.YtfcaeifpclpnoaaQFv
namespace Go.Proofs.Ytfcaeifpclpnoaa.Tx
open Go Go.RowKit Eng
set_option linter.unusedVariables false
set_option maxRecDepth 100000
set_option linter.unusedSimpArgs false
open Wide
set_option maxHeartbeats 2000000
/-- A transaction's parts. -/
structure Tx where
  fr : Int
  no : Int
  ki : Int
  at_ : Int
  am : Int
  us : Int
  rt : List UInt8
  ro : Int
  se : Int
  re : Int
  to : Int
  id : List UInt8
  va : Int
  ex : Int
  fee : Int
  sg : List UInt8
def invc (us : Int) (rt : List UInt8) (ro se re to : Int) (id : List UInt8) : List Value := [.int .i64 us, str rt, .int .i64 ro, .int .i64 se, .int .i64 re, .int .i64 to, str id]
def varc (va ex : Int) : List Value := wv va ++ [.int .i64 ex]
def Tx.cells (t : Tx) : List Value := [.int .i64 t.fr, .int .i64 t.no, .int .i64 t.ki, .int .i64 t.at_] ++ wv t.am ++ invc t.us t.rt t.ro t.se t.re t.to t.id ++ varc t.va t.ex ++ wv t.fee ++ [str t.sg]
def inB (n a b : Int) : Bool := decide (a ≤ n) && decide (n ≤ b)
def invE (us : Int) (rt : List UInt8) (ro se re to : Int) (id : List UInt8) : Int :=
  if inB us 0 1 = true ∧ inB ro 2 3 = true ∧ inB se 0 1 = true ∧ inB re 0 1 = true ∧ inB to 0 7 = true ∧ rt.length = 8 ∧ inB (id.length : Int) 1 16 = true then 0 else 39
def sndE (va ex : Int) : Int := if va ≠ 0 ∧ inB ex 0 1099511627776 = true then 0 else 36
def rtE (t : Tx) : Int := if t.am = 0 then 36 else if t.ki = 1 ∧ inB t.to 0 7 = false then 39 else if t.ki = 2 ∧ inB t.ro 2 3 = false then 39 else 0
/-- May it be? -/
def chk (t : Tx) : Int :=
  if inB t.ki 1 6 = false then 12
  else if inB t.fr 0 7 = false ∨ inB t.no 0 1099511627776 = false ∨ inB t.at_ 0 1 = false then 4
  else if t.ki < 4 then rtE t
  else if invE t.us t.rt t.ro t.se t.re t.to t.id ≠ 0 then invE t.us t.rt t.ro t.se t.re t.to t.id
  else if sndE t.va t.ex ≠ 0 then sndE t.va t.ex
  else if 1024 < t.sg.length then 5
  else 0
/-- What a transaction that comes in is. -/
structure Tx.In (t : Tx) : Prop where
  am : Wd t.am
  va : Wd t.va
  rt : t.rt.length ≤ maxLen
  id : t.id.length ≤ maxLen
  sg : t.sg.length ≤ maxLen
theorem chk_fr {t : Tx} (h : chk t = 0) : 0 ≤ t.fr ∧ t.fr ≤ 7 := by
  unfold chk at h
  split at h
  · omega
  · split at h
    · omega
    · rename_i h1 h2
      simp only [not_or, Bool.not_eq_false] at h2
      have := h2.1
      unfold inB at this
      simpa using this
theorem in_ (n a b : Int) (w : World) : CSpec Try.prog 106 [.int .i64 n, .int .i64 a, .int .i64 b] [] w (Gives (.bool (inB n a b))) := by
  refine spec_of Try.func106 rfl Try.ntmps106 rfl (l0 := [(0, .int .i64 n), (1, .int .i64 a), (2, .int .i64 b)]) rfl ?_
  intro fp
  repeat' first
    | refine J.one ?_
    | refine J.loudS ?_
    | (refine J.loudQ ?_; intro _ _)
    | (refine J.loudB ?_; intro _)
    | (with_reducible apply J.list)
    | ((with_reducible apply J.gsplit); exact rfl; exact rfl)
    | ((with_reducible first | apply J.cond | apply JC.cond); exact rfl)
    | (intro h; exfalso; (first | (simp at h; done) | (simp at h; omega) | omega))
    | (intro h; (try simp only [decide_eq_true_eq, decide_eq_false_iff_not, beq_iff_eq, beq_eq_false_iff_ne, Bool.not_eq_true', Bool.not_eq_false', bne_iff_ne, bne_eq_false_iff_eq, ne_eq, ge_iff_le, gt_iff_lt] at h))
    | (with_reducible apply J.gave')
    | ((with_reducible apply J.kept'); rotate_left; (repeat (first | (with_reducible exact Outs.nil) | ((with_reducible apply Outs.cons); (repeat (first | with_reducible exact Out.here | with_reducible apply Out.there))))))
  all_goals ((first | (simp [retv, inB, *]; done) | (simp [retv, inB]; omega) | (trace_state; fail)))
theorem dealCheck (us : Int) (rt : List UInt8) (ro se re to : Int) (id : List UInt8) (w : World) : CSpec Try.prog 75 [.agg (invc us rt ro se re to id).toArray] [] w (Gives (.int .i64 (invE us rt ro se re to id))) := by
  refine spec_of Try.func75 rfl Try.ntmps75 rfl (l0 := [(0, .agg (invc us rt ro se re to id).toArray)]) rfl ?_
  intro fp
  repeat' first
    | (refine J.qv ?_; (with_reducible apply exq); focus (first
      | ((with_reducible apply Qv.lenS8); exact rfl)))
    | ((with_reducible apply J.givesW (in_ _ _ _)); exact rfl; exact rfl)
    | refine J.one ?_
    | refine J.loudS ?_
    | (refine J.loudQ ?_; intro _ _)
    | (refine J.loudB ?_; intro _)
    | (with_reducible apply J.list)
    | ((with_reducible apply J.gsplit); exact rfl; exact rfl)
    | ((with_reducible first | apply J.cond | apply JC.cond); exact rfl)
    | (intro h; exfalso; (first | (simp at h; done) | omega))
    | (intro h; (try simp only [decide_eq_true_eq, decide_eq_false_iff_not, beq_iff_eq, beq_eq_false_iff_ne, Bool.not_eq_true', Bool.not_eq_false', bne_iff_ne, bne_eq_false_iff_eq, ne_eq, ge_iff_le, gt_iff_lt] at h))
    | (with_reducible apply J.gave')
    | ((with_reducible apply J.kept'); rotate_left; (repeat (first | (with_reducible exact Outs.nil) | ((with_reducible apply Outs.cons); (repeat (first | with_reducible exact Out.here | with_reducible apply Out.there))))))
  all_goals ((first | rfl | (simp_all [retv, invE]; done) | (simp_all [retv, invE]; omega) | (trace_state; fail)))
theorem sound (va ex : Int) (hv : Wd va) (w : World) : CSpec Try.prog 76 [.agg (varc va ex).toArray] [] w (Gives (.int .i64 (sndE va ex))) := by
  refine spec_of Try.func76 rfl Try.ntmps76 rfl (l0 := [(0, .agg (varc va ex).toArray)]) rfl ?_
  intro fp
  repeat' first
    | (refine J.qv ?_; (with_reducible apply exq); focus (first
      | ((with_reducible apply Qv.buildW); exact rfl; exact rfl; (first | with_reducible assumption | (unfold Wo; omega) | (simp only [Wd, Wo] at *; omega)))
      | ((with_reducible apply Qv.buildW0); exact rfl; exact rfl)
      | ((with_reducible apply Qv.eqlA); exact rfl; exact rfl; (kernel_rfl); (refine weq _ _ (And.intro ?_ ?_) <;> (first | with_reducible assumption | exact ht.am | exact ht.va | (unfold Wd; omega))))))
    | ((with_reducible apply J.givesW (in_ _ _ _)); exact rfl; exact rfl)
    | refine J.one ?_
    | refine J.loudS ?_
    | (refine J.loudQ ?_; intro _ _)
    | (refine J.loudB ?_; intro _)
    | (with_reducible apply J.list)
    | ((with_reducible apply J.gsplit); exact rfl; exact rfl)
    | ((with_reducible first | apply J.cond | apply JC.cond); exact rfl)
    | (intro h; exfalso; (first | (simp at h; done) | omega))
    | (intro h; (try simp only [decide_eq_true_eq, decide_eq_false_iff_not, beq_iff_eq, beq_eq_false_iff_ne, Bool.not_eq_true', Bool.not_eq_false', bne_iff_ne, bne_eq_false_iff_eq, ne_eq, ge_iff_le, gt_iff_lt] at h))
    | (with_reducible apply J.gave')
    | ((with_reducible apply J.kept'); rotate_left; (repeat (first | (with_reducible exact Outs.nil) | ((with_reducible apply Outs.cons); (repeat (first | with_reducible exact Out.here | with_reducible apply Out.there))))))
  all_goals ((first | rfl | (simp_all [retv, sndE]; done) | (trace_state; fail)))
end Go.Proofs.Ytfcaeifpclpnoaa.Tx
namespace Go.Proofs.Ytfcaeifpclpnoaa.Field
open Go Go.RowKit Eng
set_option linter.unusedVariables false
set_option maxRecDepth 100000
set_option linter.unusedSimpArgs false
open Sha Iter Hash Bytes Hsum Wide Tx
set_option maxHeartbeats 1000000
abbrev ow := outw 155 5
theorem nat_of {n : Int} (h : 0 ≤ n) : ∃ k : Nat, n = (k : Int) ∧ n.toNat = k := ⟨n.toNat, by omega, rfl⟩
theorem num_le (n : Nat) : num n 6 = num n 6 := rfl
/-- A text's octets, its length ahead. -/
def tx (s : List UInt8) : List UInt8 := num s.length 2 ++ s
theorem tx_length (s : List UInt8) : (tx s).length = s.length + 2 := by simp [tx, num_length]; omega
/-- A wide number's octets. -/
def wb (n : Int) : List UInt8 := num n.toNat 32
theorem wb_length (n : Int) : (wb n).length = 32 := num_length _ _
theorem new_  (w : World) (hw : True) : CSpec Try.prog 45 [] [] w (FreshP (fun p => [ow p []])) := by
  refine spec_own0 Try.func45 rfl Try.ntmps45 rfl (l0 := []) rfl ?_
  repeat' first
    | refine J.one ?_
    | refine J.loudS ?_
    | (refine J.loudQ ?_; intro _ _)
    | (refine J.loudB ?_; intro _)
    | (with_reducible apply J.list)
    | ((with_reducible apply J.gsplit); exact rfl; exact rfl)
    | ((with_reducible first | apply J.cond | apply JC.cond); exact rfl)
    | (intro h; exfalso; (first | (simp at h; done) | (simp at h; omega)))
    | (intro h; (try simp only [decide_eq_true_eq, decide_eq_false_iff_not, beq_iff_eq, beq_eq_false_iff_ne, Bool.not_eq_true', Bool.not_eq_false', bne_iff_ne, bne_eq_false_iff_eq, ne_eq, ge_iff_le, gt_iff_lt] at h))
    | (with_reducible apply J.gave')
    | ((with_reducible apply J.kept'); rotate_left; (repeat (first | (with_reducible exact Outs.nil) | ((with_reducible apply Outs.cons); (repeat (first | with_reducible exact Out.here | with_reducible apply Out.there))))))
  all_goals ((rename_i p; refine J.nilRow 5 1 ?_; ((with_reducible apply J.shutOut (bs := [])); (repeat (first | with_reducible exact Out.here | with_reducible apply Out.there)); (repeat (first | with_reducible exact Out.here | with_reducible apply Out.there)); (focus (first | rfl | (simp; done) | (simp; omega))); (focus (first | rfl | (simp; done) | (simp; omega))); (focus (first | rfl | exact (bcs_append _ _).symm))); exact J.post ⟨p, rfl, rfl⟩ (.cons .here .nil)))
theorem put_ (p : Nat) (l : List UInt8) (ao : Option Addr) (n cap : Nat) (m : List UInt8) (w : World) (hw : n = m.length ∧ l.length + m.length ≤ 8192) : CSpec Try.prog 77 [.pointer (some ⟨p, 0, none⟩), .slice ao n cap, .int .i64 0] [ow p l, row (.slice ao n cap) 5 1 n (bcs m)] w (Turns (.tuple #[]) [ow p (l ++ m)]) := by
  obtain ⟨rfl, hm⟩ := hw
  refine spec_of Try.func77 rfl Try.ntmps77 rfl (l0 := [(0, .pointer (some ⟨p, 0, none⟩)), (1, .slice ao m.length cap), (2, .int .i64 0)]) rfl ?_
  intro fp
  refine J.openOut .here ?_
  intro q hq
  repeat' first
    | refine J.one ?_
    | refine J.loudS ?_
    | (refine J.loudQ ?_; intro _ _)
    | (refine J.loudB ?_; intro _)
    | (with_reducible apply J.list)
    | ((with_reducible apply J.gsplit); exact rfl; exact rfl)
    | ((with_reducible first | apply J.cond | apply JC.cond); exact rfl)
    | (intro h; exfalso; (first | (simp at h; done) | (simp at h; omega) | omega))
    | (intro h; (try simp only [decide_eq_true_eq, decide_eq_false_iff_not, beq_iff_eq, beq_eq_false_iff_ne, Bool.not_eq_true', Bool.not_eq_false', bne_iff_ne, bne_eq_false_iff_eq, ne_eq, ge_iff_le, gt_iff_lt] at h))
    | (with_reducible apply J.gave')
    | ((with_reducible apply J.kept'); rotate_left; (repeat (first | (with_reducible exact Outs.nil) | ((with_reducible apply Outs.cons); (repeat (first | with_reducible exact Out.here | with_reducible apply Out.there))))))
  all_goals ((((with_reducible apply J.shutOut (bs := l ++ m)); (repeat (first | with_reducible exact Out.here | with_reducible apply Out.there)); (repeat (first | with_reducible exact Out.here | with_reducible apply Out.there)); (focus (first | rfl | (simp; done) | (simp; omega))); (focus (first | rfl | (simp; done) | (simp; omega))); (focus (first | rfl | exact (bcs_append _ _).symm))); ((with_reducible apply J.turned); exact rfl; (repeat (first | (with_reducible exact Outs.nil) | ((with_reducible apply Outs.cons); (repeat (first | with_reducible exact Out.here | with_reducible apply Out.there))))))))
theorem numN (p : Nat) (l : List UInt8) (n : Nat) (w : World) (hw : n ≤ 1099511627776 ∧ l.length + 6 ≤ 8192) : CSpec Try.prog 46 [.pointer (some ⟨p, 0, none⟩), .int .i64 (n : Int)] [ow p l] w (Turns (.tuple #[]) [ow p (l ++ num n 6)]) := by
  obtain ⟨hn, hm⟩ := hw
  refine spec_of Try.func46 rfl Try.ntmps46 rfl (l0 := [(0, .pointer (some ⟨p, 0, none⟩)), (1, .int .i64 (n : Int))]) rfl ?_
  intro fp
  repeat' first
    | ((with_reducible apply J.freshR (num_ n 6)); exact rfl; exact rfl; (focus ((refine RH.of ?_; omega))); intro _ _)
    | ((with_reducible apply J.turnsP (put_ _ _ _ _ _ _)); exact rfl; exact rfl; (repeat (first | (with_reducible exact Outs.nil) | ((with_reducible apply Outs.cons); (repeat (first | with_reducible exact Out.here | with_reducible apply Out.there))))); (focus ((refine ⟨(num_length _ _).symm, ?_⟩; rw [num_length]; omega))); (try dsimp only [List.cons_append, List.nil_append]))
    | refine J.one ?_
    | refine J.loudS ?_
    | (refine J.loudQ ?_; intro _ _)
    | (refine J.loudB ?_; intro _)
    | (with_reducible apply J.list)
    | ((with_reducible apply J.gsplit); exact rfl; exact rfl)
    | ((with_reducible first | apply J.cond | apply JC.cond); exact rfl)
    | (intro h; exfalso; (first | (simp at h; done) | (simp at h; omega) | omega))
    | (intro h; (try simp only [decide_eq_true_eq, decide_eq_false_iff_not, beq_iff_eq, beq_eq_false_iff_ne, Bool.not_eq_true', Bool.not_eq_false', bne_iff_ne, bne_eq_false_iff_eq, ne_eq, ge_iff_le, gt_iff_lt] at h))
    | (with_reducible apply J.gave')
    | ((with_reducible apply J.kept'); rotate_left; (repeat (first | (with_reducible exact Outs.nil) | ((with_reducible apply Outs.cons); (repeat (first | with_reducible exact Out.here | with_reducible apply Out.there))))))
  all_goals (((with_reducible apply J.turned); exact rfl; (repeat (first | (with_reducible exact Outs.nil) | ((with_reducible apply Outs.cons); (repeat (first | with_reducible exact Out.here | with_reducible apply Out.there)))))))
theorem num_w (p : Nat) (l : List UInt8) (n : Int) (w : World) (hw : 0 ≤ n ∧ n ≤ 1099511627776 ∧ l.length + 6 ≤ 8192) : CSpec Try.prog 46 [.pointer (some ⟨p, 0, none⟩), .int .i64 n] [ow p l] w (Turns (.tuple #[]) [ow p (l ++ num n.toNat 6)]) := by
  obtain ⟨k, rfl, e⟩ := nat_of hw.1
  rw [e]
  exact numN p l k w ⟨by omega, hw.2.2⟩
theorem text_w (p : Nat) (l s : List UInt8) (w : World) (hw : s.length ≤ 1024 ∧ l.length + s.length ≤ 8190) : CSpec Try.prog 49 [.pointer (some ⟨p, 0, none⟩), str s] [ow p l] w (Turns (.tuple #[]) [ow p (l ++ tx s)]) := by
  obtain ⟨hn, hm⟩ := hw
  refine spec_of Try.func49 rfl Try.ntmps49 rfl (l0 := [(0, .pointer (some ⟨p, 0, none⟩)), (1, str s)]) rfl ?_
  intro fp
  repeat' first
    | ((with_reducible apply J.freshR (num_ s.length 2)); exact rfl; exact rfl; (focus ((refine RH.of ?_; omega))); intro _ _)
    | ((with_reducible apply J.freshR (cat_ _ _ _ [num s.length 2, s])); exact rfl; exact rfl; (focus (exact RH.and (RH.sblk (by (repeat (first | with_reducible exact In.here | with_reducible apply In.there))) (RH.lcons (RH.brow (by (repeat (first | with_reducible exact In.here | with_reducible apply In.there)))) (RH.lcons (RH.bbat (by (repeat (first | with_reducible exact In.here | with_reducible apply In.there)))) RH.lnil))) (RH.of ⟨rfl, by simp [num_length]; omega, by simp⟩))); intro _ _)
    | ((with_reducible apply J.turnsP (put_ _ _ _ _ _ _)); exact rfl; exact rfl; (repeat (first | (with_reducible exact Outs.nil) | ((with_reducible apply Outs.cons); (repeat (first | with_reducible exact Out.here | with_reducible apply Out.there))))); (focus ((refine ⟨rfl, ?_⟩; simp [num_length]; omega))); (try dsimp only [List.cons_append, List.nil_append]))
    | refine J.one ?_
    | refine J.loudS ?_
    | (refine J.loudQ ?_; intro _ _)
    | (refine J.loudB ?_; intro _)
    | (with_reducible apply J.list)
    | ((with_reducible apply J.gsplit); exact rfl; exact rfl)
    | ((with_reducible first | apply J.cond | apply JC.cond); exact rfl)
    | (intro h; exfalso; (first | (simp at h; done) | (simp at h; omega) | omega))
    | (intro h; (try simp only [decide_eq_true_eq, decide_eq_false_iff_not, beq_iff_eq, beq_eq_false_iff_ne, Bool.not_eq_true', Bool.not_eq_false', bne_iff_ne, bne_eq_false_iff_eq, ne_eq, ge_iff_le, gt_iff_lt] at h))
    | (with_reducible apply J.gave')
    | ((with_reducible apply J.kept'); rotate_left; (repeat (first | (with_reducible exact Outs.nil) | ((with_reducible apply Outs.cons); (repeat (first | with_reducible exact Out.here | with_reducible apply Out.there))))))
  all_goals
    first
    | (have e : ([num s.length 2, s] : List (List UInt8)).flatten = tx s := by simp [tx]
       rw [e]
       ((with_reducible apply J.turned); exact rfl; (repeat (first | (with_reducible exact Outs.nil) | ((with_reducible apply Outs.cons); (repeat (first | with_reducible exact Out.here | with_reducible apply Out.there)))))))
    | (trace_state; fail)
theorem wb_step (n k j : Nat) (hk : k ≤ 3) (hj : j < 8) : num (n / 256 ^ (8 * k + 8 - j)) (8 * (3 - k) + j) ++ [UInt8.ofNat (n / 256 ^ (8 * k + 7 - j))] = num (n / 256 ^ (8 * k + 8 - (j + 1))) (8 * (3 - k) + (j + 1)) := by
  rw [show 8 * (3 - k) + (j + 1) = (8 * (3 - k) + j) + 1 by omega, num, Nat.div_div_eq_div_mul, ← Nat.pow_succ]
  rw [show (8 * k + 8 - (j + 1)).succ = 8 * k + 8 - j by omega, show 8 * k + 8 - (j + 1) = 8 * k + 7 - j by omega]
def wbp (n k : Nat) : List UInt8 := num (n / 256 ^ (8 * k)) (8 * (4 - k))
theorem wb_byte (n k j : Nat) (hj : j < 8) : n / 18446744073709551616 ^ k % 18446744073709551616 / 2 ^ (56 - 8 * j) % 256 = n / 256 ^ (8 * k + 7 - j) % 256 := by
  have e1 : (18446744073709551616 : Nat) = 256 ^ 8 := by decide
  have e2 : 256 ^ (8 * k + 7 - j) = (256 ^ 8) ^ k * 2 ^ (56 - 8 * j) := by
    rw [← Nat.pow_mul, show (256 : Nat) = 2 ^ 8 from rfl, ← Nat.pow_mul, ← Nat.pow_mul, ← Nat.pow_add]
    congr 1
    omega
  rw [e2, ← Nat.div_div_eq_div_mul, ← e1]
  generalize n / 18446744073709551616 ^ k = m
  obtain ⟨i, hi⟩ : ∃ i, i ≤ 7 ∧ 56 - 8 * j = 8 * i := ⟨7 - j, by omega, by omega⟩
  rw [hi.2]
  rcases (by omega : i = 0 ∨ i = 1 ∨ i = 2 ∨ i = 3 ∨ i = 4 ∨ i = 5 ∨ i = 6 ∨ i = 7) with rfl | rfl | rfl | rfl | rfl | rfl | rfl | rfl <;> simp only [Nat.reduceMul, Nat.reducePow] <;> omega
theorem wrapu8 {n : Nat} : IntKind.u8.wrap (n : Int) = ((n % 256 : Nat) : Int) := wr8
theorem shrx {x j : Nat} (hj : j < 8) : ((x : Nat) : Int).fdiv (2 ^ (min (56 - 8 * (j : Int)).toNat IntKind.u64.bits)) = ((x / 2 ^ (56 - 8 * j) : Nat) : Int) := by
  have e : min (56 - 8 * (j : Int)).toNat IntKind.u64.bits = 56 - 8 * j := by
    show min (56 - 8 * (j : Int)).toNat 64 = _
    omega
  have e2 : ((2 : Int) ^ (56 - 8 * j)) = ((2 ^ (56 - 8 * j) : Nat) : Int) := by push_cast; rfl
  rw [e, e2, Int.fdiv_eq_ediv_of_nonneg _ (Int.natCast_nonneg _)]
  rfl
def wx (m k : Nat) : Nat := m / 18446744073709551616 ^ k % 18446744073709551616
theorem wx_get {m k : Nat} (hk : k < 4) : (wv (m : Int))[k]? = some (.int .u64 ((wx m k : Nat) : Int)) := by
  rw [wv_get hk]
  congr 2
theorem wbp_0 (m : Nat) : wbp m 0 = num m 32 := by simp [wbp]
theorem wbp_4 (m : Nat) : wbp m 4 = [] := rfl
theorem wide_ (m : Nat) (w : World) (hw : True) : CSpec Try.prog 79 [.agg (wv (m : Int)).toArray] [] w (Fresh 5 1 32 (bcs (num m 32)) []) := by
  refine spec_ownM Try.func79 rfl Try.ntmps79 rfl (l0 := [(0, .agg (wv (m : Int)).toArray)]) rfl ?_
  refine J.noPanic ?_
  repeat' first
    | ((with_reducible apply J.iterB (backward_uint64 _ _ _)); exact rfl; exact rfl; intro _)
    | refine J.one ?_
    | refine J.loudS ?_
    | (refine J.loudQ ?_; intro _ _)
    | (refine J.loudB ?_; intro _)
    | (with_reducible apply J.list)
    | ((with_reducible apply JC.draw (id := 7) [0, 0, 0, 6, 14, 30, 63, 127] (.q 0 (.p 1 (.p 2 (.p 3 (.p 4 (.x 5 (.x 6 (.x 7 .nil .none) .none) .none)))))) (by kernel_rfl) ?_ (by kernel_rfl) ?_); (repeat (with_reducible first | exact PanicFree.body | exact PanicFree.np | exact PanicFree.lvS | apply PanicFree.then_ | apply PanicFree.blk)))
    | ((with_reducible apply J.pl2); exact rfl; (first | exact Gd.none | ((with_reducible apply Gd.on); exact rfl; exact rfl)); (repeat (first | (with_reducible exact PendF.nil) | ((with_reducible apply PendF.keep); exact rfl) | ((with_reducible apply PendF.gone); exact rfl))))
    | ((with_reducible apply J.pl2_off); exact rfl; ((with_reducible apply Gd.off); exact rfl; exact rfl; exact rfl); exact rfl; (repeat (first | (with_reducible exact PendF.nil) | ((with_reducible apply PendF.keep); exact rfl) | ((with_reducible apply PendF.gone); exact rfl))))
    | ((with_reducible apply J.pl2_off_none); exact rfl; ((with_reducible apply Gd.off); exact rfl; exact rfl; exact rfl); (repeat (first | (with_reducible exact PendF.nil) | ((with_reducible apply PendF.keep); exact rfl) | ((with_reducible apply PendF.gone); exact rfl))))
    | ((with_reducible first | apply J.psplit0 | apply J.psplit1 | apply J.psplit2); exact rfl; exact rfl; exact rfl)
    | (with_reducible exact J.pl_none)
    | ((with_reducible apply J.gsplit); exact rfl; exact rfl)
    | ((with_reducible first | apply J.cond | apply JC.cond); exact rfl)
    | (intro h; exfalso; fail)
    | (intro h; (try simp only [decide_eq_true_eq, decide_eq_false_iff_not, beq_iff_eq, beq_eq_false_iff_ne, Bool.not_eq_true', Bool.not_eq_false', bne_iff_ne, bne_eq_false_iff_eq, ne_eq, ge_iff_le, gt_iff_lt] at h))
    | (with_reducible apply J.gave')
    | ((with_reducible apply J.kept'); rotate_left; (repeat (first | (with_reducible exact Outs.nil) | ((with_reducible apply Outs.cons); (repeat (first | with_reducible exact Out.here | with_reducible apply Out.there))))))
  rename_i p1 p3 Bs
  refine J.nilRow 5 1 ?_
  apply J.reR (v' := .slice none (8 * (4 - 4)) 0) (n' := 8 * (4 - 4)) (C' := bcs (wbp m 4))
  · (repeat (first | with_reducible exact Upd.here | with_reducible apply Upd.there))
  · rfl
  · rfl
  · rfl
  apply J.reB (b := p3) (C' := [.slice none (8 * (4 - 4)) 0])
  · (repeat (first | with_reducible exact Upd.here | with_reducible apply Upd.there))
  · rfl
  apply J.rangeG (ps := [9, 10]) (back_uint64 Bs p1 4 4 (fun k => ((wx m k : Nat) : Int)) (by decide)) (fun _ (_ : Option Addr × Nat) => True) (fun k q => [blk p1 (wv (m : Int)) 24, blk p3 [.slice q.1 (8 * (4 - k)) q.2] 54, row (.slice q.1 (8 * (4 - k)) q.2) 5 1 (8 * (4 - k)) (bcs (wbp m k)), blk Bs [.slice (some ⟨p1, 0, none⟩) 4 4] 122]) [falseA] (fun k => [(5, .int .u64 ((wx m k : Nat) : Int)), (3, .pointer (some ⟨p3, 0, none⟩))]) (none, 0)
  case hg => rfl
  case hps => rfl
  case hlen => exact fun k => rfl
  case hF => exact fun k q W _ s => ⟨s.cell (.tail _ (.tail _ (.tail _ (.head _)))) rfl, fun j hj hlt => s.cell (.head _) (wx_get hlt)⟩
  case hI => trivial
  case ho => ((try dsimp only); (repeat (first | (with_reducible exact Outs.nil) | ((with_reducible apply Outs.cons); (repeat (first | with_reducible exact Out.here | with_reducible apply Out.there))))))
  case hm => kernel_rfl
  case hka => rfl
  case hkb => rfl
  case hassign =>
    intro k A
    try dsimp only [putSl]
    repeat' first
      | ((with_reducible apply J.iterB (backward_uint64 _ _ _)); exact rfl; exact rfl; intro _)
      | refine J.one ?_
      | refine J.loudS ?_
      | (refine J.loudQ ?_; intro _ _)
      | (refine J.loudB ?_; intro _)
      | (with_reducible apply J.list)
      | ((with_reducible apply JC.draw (id := 7) [0, 0, 0, 6, 14, 30, 63, 127] (.q 0 (.p 1 (.p 2 (.p 3 (.p 4 (.x 5 (.x 6 (.x 7 .nil .none) .none) .none)))))) (by kernel_rfl) ?_ (by kernel_rfl) ?_); (repeat (with_reducible first | exact PanicFree.body | exact PanicFree.np | exact PanicFree.lvS | apply PanicFree.then_ | apply PanicFree.blk)))
      | ((with_reducible apply J.pl2); exact rfl; (first | exact Gd.none | ((with_reducible apply Gd.on); exact rfl; exact rfl)); (repeat (first | (with_reducible exact PendF.nil) | ((with_reducible apply PendF.keep); exact rfl) | ((with_reducible apply PendF.gone); exact rfl))))
      | ((with_reducible apply J.pl2_off); exact rfl; ((with_reducible apply Gd.off); exact rfl; exact rfl; exact rfl); exact rfl; (repeat (first | (with_reducible exact PendF.nil) | ((with_reducible apply PendF.keep); exact rfl) | ((with_reducible apply PendF.gone); exact rfl))))
      | ((with_reducible apply J.pl2_off_none); exact rfl; ((with_reducible apply Gd.off); exact rfl; exact rfl; exact rfl); (repeat (first | (with_reducible exact PendF.nil) | ((with_reducible apply PendF.keep); exact rfl) | ((with_reducible apply PendF.gone); exact rfl))))
      | ((with_reducible first | apply J.psplit0 | apply J.psplit1 | apply J.psplit2); exact rfl; exact rfl; exact rfl)
      | (with_reducible exact J.pl_none)
      | ((with_reducible apply J.gsplit); exact rfl; exact rfl)
      | ((with_reducible first | apply J.cond | apply JC.cond); exact rfl)
      | (intro h; exfalso; fail)
      | (intro h; (try simp only [decide_eq_true_eq, decide_eq_false_iff_not, beq_iff_eq, beq_eq_false_iff_ne, Bool.not_eq_true', Bool.not_eq_false', bne_iff_ne, bne_eq_false_iff_eq, ne_eq, ge_iff_le, gt_iff_lt] at h))
      | (with_reducible apply J.gave')
      | ((with_reducible apply J.kept'); rotate_left; (repeat (first | (with_reducible exact Outs.nil) | ((with_reducible apply Outs.cons); (repeat (first | with_reducible exact Out.here | with_reducible apply Out.there))))))
    all_goals ((try dsimp only); apply J.stE; ((try dsimp only); repeat (first | exact sub.nil _ | (refine sub.consE rfl ?_ ?_; (first | with_reducible rfl | (fail) | rfl)))))
  case hbody =>
    rintro ll D rc k q hk _
    try dsimp only at *
    repeat' first
      | refine J.one ?_
      | refine J.loudS ?_
      | (refine J.loudQ ?_; intro _ _)
      | (refine J.loudB ?_; intro _)
      | (with_reducible apply J.list)
      | ((with_reducible apply JC.draw (id := 7) [0, 0, 0, 6, 14, 30, 63, 127] (.q 0 (.p 1 (.p 2 (.p 3 (.p 4 (.x 5 (.x 6 (.x 7 .nil .none) .none) .none)))))) (by kernel_rfl) ?_ (by kernel_rfl) ?_); (repeat (with_reducible first | exact PanicFree.body | exact PanicFree.np | exact PanicFree.lvS | apply PanicFree.then_ | apply PanicFree.blk)))
      | ((with_reducible apply J.pl2); exact rfl; (first | exact Gd.none | ((with_reducible apply Gd.on); exact rfl; exact rfl)); (repeat (first | (with_reducible exact PendF.nil) | ((with_reducible apply PendF.keep); exact rfl) | ((with_reducible apply PendF.gone); exact rfl))))
      | ((with_reducible apply J.pl2_off); exact rfl; ((with_reducible apply Gd.off); exact rfl; exact rfl; exact rfl); exact rfl; (repeat (first | (with_reducible exact PendF.nil) | ((with_reducible apply PendF.keep); exact rfl) | ((with_reducible apply PendF.gone); exact rfl))))
      | ((with_reducible apply J.pl2_off_none); exact rfl; ((with_reducible apply Gd.off); exact rfl; exact rfl; exact rfl); (repeat (first | (with_reducible exact PendF.nil) | ((with_reducible apply PendF.keep); exact rfl) | ((with_reducible apply PendF.gone); exact rfl))))
      | ((with_reducible first | apply J.psplit0 | apply J.psplit1 | apply J.psplit2); exact rfl; exact rfl; exact rfl)
      | (with_reducible exact J.pl_none)
      | ((with_reducible apply J.gsplit); exact rfl; exact rfl)
      | ((with_reducible first | apply J.cond | apply JC.cond); exact rfl)
      | (intro h; exfalso; fail)
      | (intro h; (try simp only [decide_eq_true_eq, decide_eq_false_iff_not, beq_iff_eq, beq_eq_false_iff_ne, Bool.not_eq_true', Bool.not_eq_false', bne_iff_ne, bne_eq_false_iff_eq, ne_eq, ge_iff_le, gt_iff_lt] at h))
      | (with_reducible apply J.gave')
      | ((with_reducible apply J.kept'); rotate_left; (repeat (first | (with_reducible exact Outs.nil) | ((with_reducible apply Outs.cons); (repeat (first | with_reducible exact Out.here | with_reducible apply Out.there))))))
    have e3 : 8 * (4 - (k + 1)) = 8 * (3 - k) + 0 := by omega
    apply J.reR (v' := .slice q.1 (8 * (3 - k) + 0) q.2) (n' := 8 * (3 - k) + 0) (C' := bcs (num (m / 256 ^ (8 * k + 8 - 0)) (8 * (3 - k) + 0)))
    · (repeat (first | with_reducible exact Upd.here | with_reducible apply Upd.there))
    · rw [e3]
    · exact e3
    · (unfold wbp; rw [e3]; rfl)
    apply J.reB (b := p3) (C' := [.slice q.1 (8 * (3 - k) + 0) q.2])
    · (repeat (first | with_reducible exact Upd.here | with_reducible apply Upd.there))
    · rw [e3]
    apply JC.loopI (σ := (Nat × (Option Addr × Nat))) (I := fun s => (s.1 ≤ 8)) (L := fun s => [(5, .int .u64 ((wx m k : Nat) : Int)), (3, .pointer (some ⟨p3, 0, none⟩)), (6, .int .i64 (56 - 8 * (s.1 : Int)))]) (HH := fun s => [obj ll (.loop rc), obj D (.deferred (some [])), blk p1 (wv (m : Int)) 24, blk p3 [.slice s.2.1 (8 * (3 - k) + s.1) s.2.2] 54, row (.slice s.2.1 (8 * (3 - k) + s.1) s.2.2) 5 1 (8 * (3 - k) + s.1) (bcs (num (m / 256 ^ (8 * k + 8 - s.1)) (8 * (3 - k) + s.1))), blk Bs [.slice (some ⟨p1, 0, none⟩) 4 4] 122]) (m := fun s => 8 - s.1) (s0 := (0, q))
    · ((try dsimp only); (exact Nat.zero_le _))
    · ((try dsimp only); repeat (first | exact sub.nil _ | (refine sub.consE rfl ?_ ?_; (first | with_reducible rfl | (fail) | rfl))))
    · ((try dsimp only); (repeat (first | (with_reducible exact Outs.nil) | ((with_reducible apply Outs.cons); (repeat (first | with_reducible exact Out.here | with_reducible apply Out.there))))))
    rintro nn ⟨j, r⟩ hnn hJ hK
    try dsimp only at hnn hJ ⊢
    rcases Nat.lt_or_ge j 8 with hq | hq
    · repeat' first
        | (refine J.qv ?_; (with_reducible apply exq); focus (first
          | ((with_reducible apply Qv.shr); exact rfl; exact rfl; omega; exact shrx hq)
          | ((with_reducible apply Qv.conv); exact rfl; exact wrapu8)))
        | refine J.one ?_
        | refine J.loudS ?_
        | (refine J.loudQ ?_; intro _ _)
        | (refine J.loudB ?_; intro _)
        | (with_reducible apply J.list)
        | ((with_reducible apply JC.draw (id := 7) [0, 0, 0, 6, 14, 30, 63, 127] (.q 0 (.p 1 (.p 2 (.p 3 (.p 4 (.x 5 (.x 6 (.x 7 .nil .none) .none) .none)))))) (by kernel_rfl) ?_ (by kernel_rfl) ?_); (repeat (with_reducible first | exact PanicFree.body | exact PanicFree.np | exact PanicFree.lvS | apply PanicFree.then_ | apply PanicFree.blk)))
        | ((with_reducible apply J.pl2); exact rfl; (first | exact Gd.none | ((with_reducible apply Gd.on); exact rfl; exact rfl)); (repeat (first | (with_reducible exact PendF.nil) | ((with_reducible apply PendF.keep); exact rfl) | ((with_reducible apply PendF.gone); exact rfl))))
        | ((with_reducible apply J.pl2_off); exact rfl; ((with_reducible apply Gd.off); exact rfl; exact rfl; exact rfl); exact rfl; (repeat (first | (with_reducible exact PendF.nil) | ((with_reducible apply PendF.keep); exact rfl) | ((with_reducible apply PendF.gone); exact rfl))))
        | ((with_reducible apply J.pl2_off_none); exact rfl; ((with_reducible apply Gd.off); exact rfl; exact rfl; exact rfl); (repeat (first | (with_reducible exact PendF.nil) | ((with_reducible apply PendF.keep); exact rfl) | ((with_reducible apply PendF.gone); exact rfl))))
        | ((with_reducible first | apply J.psplit0 | apply J.psplit1 | apply J.psplit2); exact rfl; exact rfl; exact rfl)
        | (with_reducible exact J.pl_none)
        | ((with_reducible apply J.gsplit); exact rfl; exact rfl)
        | ((with_reducible first | apply J.cond | apply JC.cond); exact rfl)
        | (intro h; exfalso; (first | (simp at h; done) | (simp at h; omega) | omega))
        | (intro h; (try simp only [decide_eq_true_eq, decide_eq_false_iff_not, beq_iff_eq, beq_eq_false_iff_ne, Bool.not_eq_true', Bool.not_eq_false', bne_iff_ne, bne_eq_false_iff_eq, ne_eq, ge_iff_le, gt_iff_lt] at h))
        | (with_reducible apply J.gave')
        | ((with_reducible apply J.kept'); rotate_left; (repeat (first | (with_reducible exact Outs.nil) | ((with_reducible apply Outs.cons); (repeat (first | with_reducible exact Out.here | with_reducible apply Out.there))))))
      all_goals
        first
        | (rename_i r2 _
           apply J.reR (v' := .slice r2.1 (8 * (3 - k) + (j + 1)) r2.2) (n' := 8 * (3 - k) + (j + 1)) (C' := bcs (num (m / 256 ^ (8 * k + 8 - (j + 1))) (8 * (3 - k) + (j + 1))))
           · (repeat (first | with_reducible exact Upd.here | with_reducible apply Upd.there))
           · rfl
           · rfl
           · (rw [← wb_step m k j (by omega) hq, bcs_append]; simp only [bcs, List.map_cons, List.map_nil, u8_cell]; rw [← wb_byte m k j hq]; rfl)
           apply J.reB (b := p3) (C' := [.slice r2.1 (8 * (3 - k) + (j + 1)) r2.2])
           · (repeat (first | with_reducible exact Upd.here | with_reducible apply Upd.there))
           · rfl
           (apply JC.againI hK (s' := (j + 1, r2)); (focus (omega)); (focus ((try dsimp only); (show j + 1 ≤ 8; omega))); (focus (((try dsimp only); repeat (first | exact sub.nil _ | (refine sub.consE rfl ?_ ?_; (first | with_reducible rfl | ((focus (first | rfl | (congr 1; omega)))) | rfl)))))); ((try dsimp only); (repeat (first | (with_reducible exact Outs.nil) | ((with_reducible apply Outs.cons); (repeat (first | with_reducible exact Out.here | with_reducible apply Out.there))))))))
        | (trace_state; fail)
    · have e0 : j = 8 := by omega
      subst e0
      repeat' first
        | refine J.one ?_
        | refine J.loudS ?_
        | (refine J.loudQ ?_; intro _ _)
        | (refine J.loudB ?_; intro _)
        | (with_reducible apply J.list)
        | ((with_reducible apply JC.draw (id := 7) [0, 0, 0, 6, 14, 30, 63, 127] (.q 0 (.p 1 (.p 2 (.p 3 (.p 4 (.x 5 (.x 6 (.x 7 .nil .none) .none) .none)))))) (by kernel_rfl) ?_ (by kernel_rfl) ?_); (repeat (with_reducible first | exact PanicFree.body | exact PanicFree.np | exact PanicFree.lvS | apply PanicFree.then_ | apply PanicFree.blk)))
        | ((with_reducible apply J.pl2); exact rfl; (first | exact Gd.none | ((with_reducible apply Gd.on); exact rfl; exact rfl)); (repeat (first | (with_reducible exact PendF.nil) | ((with_reducible apply PendF.keep); exact rfl) | ((with_reducible apply PendF.gone); exact rfl))))
        | ((with_reducible apply J.pl2_off); exact rfl; ((with_reducible apply Gd.off); exact rfl; exact rfl; exact rfl); exact rfl; (repeat (first | (with_reducible exact PendF.nil) | ((with_reducible apply PendF.keep); exact rfl) | ((with_reducible apply PendF.gone); exact rfl))))
        | ((with_reducible apply J.pl2_off_none); exact rfl; ((with_reducible apply Gd.off); exact rfl; exact rfl; exact rfl); (repeat (first | (with_reducible exact PendF.nil) | ((with_reducible apply PendF.keep); exact rfl) | ((with_reducible apply PendF.gone); exact rfl))))
        | ((with_reducible first | apply J.psplit0 | apply J.psplit1 | apply J.psplit2); exact rfl; exact rfl; exact rfl)
        | (with_reducible exact J.pl_none)
        | ((with_reducible apply J.gsplit); exact rfl; exact rfl)
        | ((with_reducible first | apply J.cond | apply JC.cond); exact rfl)
        | (intro h; exfalso; (first | (simp at h; done) | (simp at h; omega) | omega))
        | (intro h; (try simp only [decide_eq_true_eq, decide_eq_false_iff_not, beq_iff_eq, beq_eq_false_iff_ne, Bool.not_eq_true', Bool.not_eq_false', bne_iff_ne, bne_eq_false_iff_eq, ne_eq, ge_iff_le, gt_iff_lt] at h))
        | (with_reducible apply J.gave')
        | ((with_reducible apply J.kept'); rotate_left; (repeat (first | (with_reducible exact Outs.nil) | ((with_reducible apply Outs.cons); (repeat (first | with_reducible exact Out.here | with_reducible apply Out.there))))))
      all_goals
        first
        | (have e4 : 8 * (3 - k) + 8 = 8 * (4 - k) := by omega
           apply J.reR (v' := .slice r.1 (8 * (4 - k)) r.2) (n' := 8 * (4 - k)) (C' := bcs (wbp m k))
           · (repeat (first | with_reducible exact Upd.here | with_reducible apply Upd.there))
           · rw [e4]
           · exact e4
           · (unfold wbp; rw [e4]; rfl)
           apply J.reB (b := p3) (C' := [.slice r.1 (8 * (4 - k)) r.2])
           · (repeat (first | with_reducible exact Upd.here | with_reducible apply Upd.there))
           · rw [e4]
           apply J.lvN r trivial
           (dsimp only [List.cons_append, List.nil_append]; (repeat (first | (with_reducible exact Outs.nil) | ((with_reducible apply Outs.cons); (repeat (first | with_reducible exact Out.here | with_reducible apply Out.there)))))))
        | (trace_state; fail)
  case hdone =>
    rintro q _ D
    try dsimp only at *
    repeat' first
      | ((with_reducible apply J.iterB (backward_uint64 _ _ _)); exact rfl; exact rfl; intro _)
      | refine J.one ?_
      | refine J.loudS ?_
      | (refine J.loudQ ?_; intro _ _)
      | (refine J.loudB ?_; intro _)
      | (with_reducible apply J.list)
      | ((with_reducible apply JC.draw (id := 7) [0, 0, 0, 6, 14, 30, 63, 127] (.q 0 (.p 1 (.p 2 (.p 3 (.p 4 (.x 5 (.x 6 (.x 7 .nil .none) .none) .none)))))) (by kernel_rfl) ?_ (by kernel_rfl) ?_); (repeat (with_reducible first | exact PanicFree.body | exact PanicFree.np | exact PanicFree.lvS | apply PanicFree.then_ | apply PanicFree.blk)))
      | ((with_reducible apply J.pl2); exact rfl; (first | exact Gd.none | ((with_reducible apply Gd.on); exact rfl; exact rfl)); (repeat (first | (with_reducible exact PendF.nil) | ((with_reducible apply PendF.keep); exact rfl) | ((with_reducible apply PendF.gone); exact rfl))))
      | ((with_reducible apply J.pl2_off); exact rfl; ((with_reducible apply Gd.off); exact rfl; exact rfl; exact rfl); exact rfl; (repeat (first | (with_reducible exact PendF.nil) | ((with_reducible apply PendF.keep); exact rfl) | ((with_reducible apply PendF.gone); exact rfl))))
      | ((with_reducible apply J.pl2_off_none); exact rfl; ((with_reducible apply Gd.off); exact rfl; exact rfl; exact rfl); (repeat (first | (with_reducible exact PendF.nil) | ((with_reducible apply PendF.keep); exact rfl) | ((with_reducible apply PendF.gone); exact rfl))))
      | ((with_reducible first | apply J.psplit0 | apply J.psplit1 | apply J.psplit2); exact rfl; exact rfl; exact rfl)
      | (with_reducible exact J.pl_none)
      | ((with_reducible apply J.gsplit); exact rfl; exact rfl)
      | ((with_reducible first | apply J.cond | apply JC.cond); exact rfl)
      | (intro h; exfalso; fail)
      | (intro h; (try simp only [decide_eq_true_eq, decide_eq_false_iff_not, beq_iff_eq, beq_eq_false_iff_ne, Bool.not_eq_true', Bool.not_eq_false', bne_iff_ne, bne_eq_false_iff_eq, ne_eq, ge_iff_le, gt_iff_lt] at h))
      | (with_reducible apply J.gave')
      | ((with_reducible apply J.kept'); rotate_left; (repeat (first | (with_reducible exact Outs.nil) | ((with_reducible apply Outs.cons); (repeat (first | with_reducible exact Out.here | with_reducible apply Out.there))))))
    all_goals
      first
      | ((with_reducible apply J.freshRow); (repeat (first | with_reducible exact Out.here | with_reducible apply Out.there)); exact rfl; exact rfl; exact congrArg bcs (wbp_0 m))
      | (trace_state; fail)
  case hstop =>
    intro D
    exact J.absurd_ (.there .here)
end Go.Proofs.Ytfcaeifpclpnoaa.Field
namespace Go.Proofs.Ytfcaeifpclpnoaa.Deal
open Go Go.RowKit Eng
set_option linter.unusedVariables false
set_option maxRecDepth 100000
set_option linter.unusedSimpArgs false
open Sha Iter Hash Bytes Hsum Wide Tx Field
set_option maxHeartbeats 1000000
theorem wide_w (p : Nat) (l : List UInt8) (n : Int) (w : World) (hw : 0 ≤ n ∧ l.length ≤ 8160) : CSpec Try.prog 48 [.pointer (some ⟨p, 0, none⟩), .agg (wv n).toArray] [ow p l] w (Turns (.tuple #[]) [ow p (l ++ wb n)]) := by
  obtain ⟨hn, hm⟩ := hw
  obtain ⟨k, rfl, e⟩ := nat_of hn
  refine spec_of Try.func48 rfl Try.ntmps48 rfl (l0 := [(0, .pointer (some ⟨p, 0, none⟩)), (1, .agg (wv (k : Int)).toArray)]) rfl ?_
  intro fp
  repeat' first
    | ((with_reducible apply J.freshR (wide_ k)); exact rfl; exact rfl; (focus (exact RH.true_)); intro _ _)
    | ((with_reducible apply J.turnsP (put_ _ _ _ _ _ _)); exact rfl; exact rfl; (repeat (first | (with_reducible exact Outs.nil) | ((with_reducible apply Outs.cons); (repeat (first | with_reducible exact Out.here | with_reducible apply Out.there))))); (focus ((refine ⟨(num_length _ _).symm, ?_⟩; rw [num_length]; omega))); (try dsimp only [List.cons_append, List.nil_append]))
    | refine J.one ?_
    | refine J.loudS ?_
    | (refine J.loudQ ?_; intro _ _)
    | (refine J.loudB ?_; intro _)
    | (with_reducible apply J.list)
    | ((with_reducible apply J.gsplit); exact rfl; exact rfl)
    | ((with_reducible first | apply J.cond | apply JC.cond); exact rfl)
    | (intro h; exfalso; (first | (simp at h; done) | (simp at h; omega) | omega))
    | (intro h; (try simp only [decide_eq_true_eq, decide_eq_false_iff_not, beq_iff_eq, beq_eq_false_iff_ne, Bool.not_eq_true', Bool.not_eq_false', bne_iff_ne, bne_eq_false_iff_eq, ne_eq, ge_iff_le, gt_iff_lt] at h))
    | (with_reducible apply J.gave')
    | ((with_reducible apply J.kept'); rotate_left; (repeat (first | (with_reducible exact Outs.nil) | ((with_reducible apply Outs.cons); (repeat (first | with_reducible exact Out.here | with_reducible apply Out.there))))))
  all_goals ((unfold wb; rw [e]; ((with_reducible apply J.turned); exact rfl; (repeat (first | (with_reducible exact Outs.nil) | ((with_reducible apply Outs.cons); (repeat (first | with_reducible exact Out.here | with_reducible apply Out.there))))))))
theorem done_ (p : Nat) (l : List UInt8) (w : World) (hw : l.length ≤ 8192) : CSpec Try.prog 52 [.pointer (some ⟨p, 0, none⟩)] [ow p l] w (DoneP 5 l.length (bcs l) []) := by
  refine spec_of Try.func52 rfl Try.ntmps52 rfl (l0 := [(0, .pointer (some ⟨p, 0, none⟩))]) rfl ?_
  intro fp
  refine J.openOut .here ?_
  intro q hq
  repeat' first
    | ((with_reducible apply J.freshR (cat_ _ _ _ [l])); exact rfl; exact rfl; (focus (exact RH.and (RH.sblk (by (repeat (first | with_reducible exact In.here | with_reducible apply In.there))) (RH.lcons (RH.brow (by (repeat (first | with_reducible exact In.here | with_reducible apply In.there)))) RH.lnil)) (RH.of ⟨rfl, by simp; omega, by simp⟩))); intro _ _)
    | refine J.one ?_
    | refine J.loudS ?_
    | (refine J.loudQ ?_; intro _ _)
    | (refine J.loudB ?_; intro _)
    | (with_reducible apply J.list)
    | ((with_reducible apply J.draw (id := 4) [0, 1, 3, 7, 0, 31] (.p 0 (.p 1 (.p 2 (.q 3 (.p 4 (.p 5 .nil)))))) (by kernel_rfl) ?_ (by kernel_rfl) ?_); (repeat (with_reducible first | exact PanicFree.body | exact PanicFree.np | exact PanicFree.lvS | apply PanicFree.then_ | apply PanicFree.blk)))
    | ((with_reducible apply J.pl2); exact rfl; (first | exact Gd.none | ((with_reducible apply Gd.on); exact rfl; exact rfl)); (repeat (first | (with_reducible exact PendF.nil) | ((with_reducible apply PendF.keep); exact rfl) | ((with_reducible apply PendF.gone); exact rfl))))
    | ((with_reducible apply J.pl2_off); exact rfl; ((with_reducible apply Gd.off); exact rfl; exact rfl; exact rfl); exact rfl; (repeat (first | (with_reducible exact PendF.nil) | ((with_reducible apply PendF.keep); exact rfl) | ((with_reducible apply PendF.gone); exact rfl))))
    | ((with_reducible apply J.pl2_off_none); exact rfl; ((with_reducible apply Gd.off); exact rfl; exact rfl; exact rfl); (repeat (first | (with_reducible exact PendF.nil) | ((with_reducible apply PendF.keep); exact rfl) | ((with_reducible apply PendF.gone); exact rfl))))
    | ((with_reducible first | apply J.psplit0 | apply J.psplit1 | apply J.psplit2); exact rfl; exact rfl; exact rfl)
    | (with_reducible exact J.pl_none)
    | ((with_reducible apply J.gsplit); exact rfl; exact rfl)
    | ((with_reducible first | apply J.cond | apply JC.cond); exact rfl)
    | (intro h; exfalso; (first | (simp at h; done) | (simp at h; omega) | omega))
    | (intro h; (try simp only [decide_eq_true_eq, decide_eq_false_iff_not, beq_iff_eq, beq_eq_false_iff_ne, Bool.not_eq_true', Bool.not_eq_false', bne_iff_ne, bne_eq_false_iff_eq, ne_eq, ge_iff_le, gt_iff_lt] at h))
    | (with_reducible apply J.gave')
    | ((with_reducible apply J.kept'); rotate_left; (repeat (first | (with_reducible exact Outs.nil) | ((with_reducible apply Outs.cons); (repeat (first | with_reducible exact Out.here | with_reducible apply Out.there))))))
  all_goals
    first
    | ((with_reducible apply J.done'); (repeat (first | (with_reducible exact Outs.nil) | ((with_reducible apply Outs.cons); (repeat (first | with_reducible exact Out.here | with_reducible apply Out.there))))); exact rfl; (focus (simp; done)); (focus (first | assumption | (simp; done))); omega)
    | (trace_state; fail)
def invB (us : Int) (rt : List UInt8) (ro se re to : Int) (id : List UInt8) : List UInt8 := tx [105, 110, 118] ++ num us.toNat 6 ++ tx rt ++ num ro.toNat 6 ++ num se.toNat 6 ++ num re.toNat 6 ++ num to.toNat 6 ++ tx id
theorem inv_ok {us ro se re to : Int} {rt id : List UInt8} (h : invE us rt ro se re to id = 0) : 0 ≤ us ∧ us ≤ 1 ∧ 2 ≤ ro ∧ ro ≤ 3 ∧ 0 ≤ se ∧ se ≤ 1 ∧ 0 ≤ re ∧ re ≤ 1 ∧ 0 ≤ to ∧ to ≤ 7 ∧ rt.length = 8 ∧ 1 ≤ id.length ∧ id.length ≤ 16 := by
  unfold invE inB at h
  split at h
  · rename_i h1
    simp at h1
    omega
  · omega
def varB (va ex : Int) : List UInt8 := wb va ++ num ex.toNat 6
theorem var_ok {va ex : Int} (h : sndE va ex = 0) : va ≠ 0 ∧ 0 ≤ ex ∧ ex ≤ 1099511627776 := by
  unfold sndE inB at h
  split at h
  · rename_i h1
    simp at h1
    omega
  · omega
theorem invB_length {us ro se re to : Int} {rt id : List UInt8} : (invB us rt ro se re to id).length = 39 + rt.length + id.length := by
  unfold invB
  simp only [List.length_append, tx_length, num_length, List.length_cons, List.length_nil]
  omega
theorem varB_length {va ex : Int} : (varB va ex).length = 38 := by simp [varB, wb_length, num_length]
/-- A transfer's key. -/
def keyF (us : Int) (rt : List UInt8) (ro se re to : Int) (id : List UInt8) : List UInt8 := if invE us rt ro se re to id = 0 then sha (invB us rt ro se re to id) else []
def digB (k : List UInt8) (va ex : Int) : List UInt8 := tx k ++ varB va ex
def digF (us : Int) (rt : List UInt8) (ro se re to : Int) (id : List UInt8) (va ex : Int) : List UInt8 := if invE us rt ro se re to id = 0 ∧ sndE va ex = 0 then sha (digB (keyF us rt ro se re to id) va ex) else []
def payB (act : Int) (k : List UInt8) (fee : Int) : List UInt8 := tx [97, 99, 116] ++ num act.toNat 6 ++ tx k ++ wb fee
def payF (act : Int) (k : List UInt8) (fee : Int) : List UInt8 := if inB act 1 2 = true ∧ k.length = 32 then payB act k fee else []
theorem keyF_length (us : Int) (rt : List UInt8) (ro se re to : Int) (id : List UInt8) : (keyF us rt ro se re to id).length = if invE us rt ro se re to id = 0 then 32 else 0 := by
  unfold keyF
  split
  · exact sha_length _
  · rfl
theorem put_inv (p : Nat) (l : List UInt8) (us : Int) (rt : List UInt8) (ro se re to : Int) (id : List UInt8) (w : World) (hw : invE us rt ro se re to id = 0 ∧ l.length ≤ 4000) : CSpec Try.prog 50 [.pointer (some ⟨p, 0, none⟩), .agg (invc us rt ro se re to id).toArray] [ow p l] w (Turns (.tuple #[]) [ow p (l ++ invB us rt ro se re to id)]) := by
  obtain ⟨hi, hm⟩ := hw
  obtain ⟨u0, u1, r0, r1, s0, s1, e0, e1, t0, t1, rl, i0, i1⟩ := inv_ok hi
  refine spec_of Try.func50 rfl Try.ntmps50 rfl (l0 := [(0, .pointer (some ⟨p, 0, none⟩)), (1, .agg (invc us rt ro se re to id).toArray)]) rfl ?_
  intro fp
  repeat' first
    | (with_reducible refine J.rounds 5 ?_)
    | (with_reducible apply J.round)
    | ((with_reducible apply J.turnsP (text_w _ _ _)); exact rfl; exact rfl; (repeat (first | (with_reducible exact Outs.nil) | ((with_reducible apply Outs.cons); (repeat (first | with_reducible exact Out.here | with_reducible apply Out.there))))); (focus ((refine ⟨?_, ?_⟩ <;> first | (simp; done) | omega | (simp only [List.length_append, tx_length, num_length, wb_length, List.length_cons, List.length_nil]; omega)))); (try dsimp only [List.cons_append, List.nil_append]))
    | ((with_reducible apply J.turnsP (num_w _ _ _)); exact rfl; exact rfl; (repeat (first | (with_reducible exact Outs.nil) | ((with_reducible apply Outs.cons); (repeat (first | with_reducible exact Out.here | with_reducible apply Out.there))))); (focus ((refine ⟨?_, ?_, ?_⟩ <;> first | omega | (simp only [List.length_append, tx_length, num_length, wb_length, List.length_cons, List.length_nil]; omega)))); (try dsimp only [List.cons_append, List.nil_append]))
    | refine J.one ?_
    | refine J.loudS ?_
    | (refine J.loudQ ?_; intro _ _)
    | (refine J.loudB ?_; intro _)
    | (with_reducible apply J.list)
    | ((with_reducible apply J.gsplit); exact rfl; exact rfl)
    | ((with_reducible first | apply J.cond | apply JC.cond); exact rfl)
    | (intro h; exfalso; (first | (revert h; decide) | (simp at h; done)))
    | (intro h; (try simp only [decide_eq_true_eq, decide_eq_false_iff_not, beq_iff_eq, beq_eq_false_iff_ne, Bool.not_eq_true', Bool.not_eq_false', bne_iff_ne, bne_eq_false_iff_eq, ne_eq, ge_iff_le, gt_iff_lt] at h))
    | (with_reducible apply J.gave')
    | ((with_reducible apply J.kept'); rotate_left; (repeat (first | (with_reducible exact Outs.nil) | ((with_reducible apply Outs.cons); (repeat (first | with_reducible exact Out.here | with_reducible apply Out.there))))))
  all_goals
    first
    | (apply J.reOut (bs' := l ++ invB us rt ro se re to id)
       · (repeat (first | with_reducible exact Upd.here | with_reducible apply Upd.there))
       · unfold invB; simp only [List.append_assoc]
       ((with_reducible apply J.turned); exact rfl; (repeat (first | (with_reducible exact Outs.nil) | ((with_reducible apply Outs.cons); (repeat (first | with_reducible exact Out.here | with_reducible apply Out.there)))))))
    | (trace_state; fail)
theorem put_var (p : Nat) (l : List UInt8) (va ex : Int) (w : World) (hw : 0 ≤ va ∧ 0 ≤ ex ∧ ex ≤ 1099511627776 ∧ l.length ≤ 4000) : CSpec Try.prog 51 [.pointer (some ⟨p, 0, none⟩), .agg (varc va ex).toArray] [ow p l] w (Turns (.tuple #[]) [ow p (l ++ varB va ex)]) := by
  obtain ⟨hv, h0, h1, hm⟩ := hw
  refine spec_of Try.func51 rfl Try.ntmps51 rfl (l0 := [(0, .pointer (some ⟨p, 0, none⟩)), (1, .agg (varc va ex).toArray)]) rfl ?_
  intro fp
  repeat' first
    | ((with_reducible apply J.turnsP (wide_w _ _ _)); exact rfl; exact rfl; (repeat (first | (with_reducible exact Outs.nil) | ((with_reducible apply Outs.cons); (repeat (first | with_reducible exact Out.here | with_reducible apply Out.there))))); (focus ((refine ⟨?_, ?_⟩ <;> first | omega | (simp only [List.length_append, tx_length, num_length, wb_length, List.length_cons, List.length_nil]; omega)))); (try dsimp only [List.cons_append, List.nil_append]))
    | ((with_reducible apply J.turnsP (num_w _ _ _)); exact rfl; exact rfl; (repeat (first | (with_reducible exact Outs.nil) | ((with_reducible apply Outs.cons); (repeat (first | with_reducible exact Out.here | with_reducible apply Out.there))))); (focus ((refine ⟨?_, ?_, ?_⟩ <;> first | omega | (simp only [List.length_append, tx_length, num_length, wb_length, List.length_cons, List.length_nil]; omega)))); (try dsimp only [List.cons_append, List.nil_append]))
    | refine J.one ?_
    | refine J.loudS ?_
    | (refine J.loudQ ?_; intro _ _)
    | (refine J.loudB ?_; intro _)
    | (with_reducible apply J.list)
    | ((with_reducible apply J.gsplit); exact rfl; exact rfl)
    | ((with_reducible first | apply J.cond | apply JC.cond); exact rfl)
    | (intro h; exfalso; (first | (simp at h; done) | (simp at h; omega) | omega))
    | (intro h; (try simp only [decide_eq_true_eq, decide_eq_false_iff_not, beq_iff_eq, beq_eq_false_iff_ne, Bool.not_eq_true', Bool.not_eq_false', bne_iff_ne, bne_eq_false_iff_eq, ne_eq, ge_iff_le, gt_iff_lt] at h))
    | (with_reducible apply J.gave')
    | ((with_reducible apply J.kept'); rotate_left; (repeat (first | (with_reducible exact Outs.nil) | ((with_reducible apply Outs.cons); (repeat (first | with_reducible exact Out.here | with_reducible apply Out.there))))))
  all_goals
    first
    | (apply J.reOut (bs' := l ++ varB va ex)
       · (repeat (first | with_reducible exact Upd.here | with_reducible apply Upd.there))
       · unfold varB; simp only [List.append_assoc]
       ((with_reducible apply J.turned); exact rfl; (repeat (first | (with_reducible exact Outs.nil) | ((with_reducible apply Outs.cons); (repeat (first | with_reducible exact Out.here | with_reducible apply Out.there)))))))
    | (trace_state; fail)
theorem key_ (us : Int) (rt : List UInt8) (ro se re to : Int) (id : List UInt8) (w : World) (hw : True) : CSpec Try.prog 73 [.agg (invc us rt ro se re to id).toArray] [] w (Gives (str (keyF us rt ro se re to id))) := by
  have hok := fun hi : invE us rt ro se re to id = 0 => inv_ok hi
  refine spec_own0 Try.func73 rfl Try.ntmps73 rfl (l0 := [(0, .agg (invc us rt ro se re to id).toArray)]) rfl ?_
  repeat' first
    | ((with_reducible apply J.givesW (dealCheck _ _ _ _ _ _ _)); exact rfl; exact rfl)
    | ((with_reducible apply J.newP new_); exact rfl; exact rfl; trivial; intro _; (try dsimp only [List.cons_append, List.nil_append]))
    | ((with_reducible apply J.turnsP (put_inv _ _ _ _ _ _ _ _ _)); exact rfl; exact rfl; (repeat (first | (with_reducible exact Outs.nil) | ((with_reducible apply Outs.cons); (repeat (first | with_reducible exact Out.here | with_reducible apply Out.there))))); (focus (exact ⟨by assumption, by simp⟩)); (try dsimp only [List.cons_append, List.nil_append]))
    | ((with_reducible apply J.doneP (done_ _ _)); exact rfl; exact rfl; (repeat (first | (with_reducible exact Outs.nil) | ((with_reducible apply Outs.cons); (repeat (first | with_reducible exact Out.here | with_reducible apply Out.there))))); (focus ((simp [invB_length]; omega))); intro _ _; (try dsimp only [List.cons_append, List.nil_append]))
    | ((with_reducible apply J.givesR (text_ _ _ _ [invB us rt ro se re to id])); exact rfl; exact rfl; (focus (exact RH.and (RH.sblk (by (repeat (first | with_reducible exact In.here | with_reducible apply In.there))) (RH.lcons (RH.brow (by (repeat (first | with_reducible exact In.here | with_reducible apply In.there)))) RH.lnil)) (RH.of ⟨rfl, by simp [invB_length]; try omega, by simp⟩))))
    | refine J.one ?_
    | refine J.loudS ?_
    | (refine J.loudQ ?_; intro _ _)
    | (refine J.loudB ?_; intro _)
    | (with_reducible apply J.list)
    | ((with_reducible apply J.gsplit); exact rfl; exact rfl)
    | ((with_reducible first | apply J.cond | apply JC.cond); exact rfl)
    | (intro h; exfalso; fail)
    | (intro h; (try simp only [decide_eq_true_eq, decide_eq_false_iff_not, beq_iff_eq, beq_eq_false_iff_ne, Bool.not_eq_true', Bool.not_eq_false', bne_iff_ne, bne_eq_false_iff_eq, ne_eq, ge_iff_le, gt_iff_lt] at h))
    | (with_reducible apply J.gave')
    | ((with_reducible apply J.kept'); rotate_left; (repeat (first | (with_reducible exact Outs.nil) | ((with_reducible apply Outs.cons); (repeat (first | with_reducible exact Out.here | with_reducible apply Out.there))))))
  all_goals
    first
    | (simp only [retv]; unfold keyF; rw [if_neg (by assumption)]; done)
    | (simp only [retv]; unfold keyF; rw [if_pos (by assumption)]; simp; done)
    | (trace_state; fail)
theorem payB_length {act : Int} {k : List UInt8} {fee : Int} : (payB act k fee).length = 45 + k.length := by
  unfold payB
  simp only [List.length_append, tx_length, num_length, wb_length, List.length_cons, List.length_nil]
  omega
theorem in_iff {n a b : Int} (h : inB n a b = true) : a ≤ n ∧ n ≤ b := by unfold inB at h; simp at h; omega
theorem payload_ (act : Int) (k : List UInt8) (fee : Int) (w : World) (hw : 0 ≤ fee ∧ k.length ≤ 140737488351232) : CSpec Try.prog 72 [.int .i64 act, str k, .agg (wv fee).toArray] [] w (Fresh 5 1 (payF act k fee).length (bcs (payF act k fee)) []) := by
  obtain ⟨hf, hkl⟩ := hw
  refine spec_own0 Try.func72 rfl Try.ntmps72 rfl (l0 := [(0, .int .i64 act), (1, str k), (2, .agg (wv fee).toArray)]) rfl ?_
  repeat' first
    | ((with_reducible apply J.givesW (in_ _ _ _)); exact rfl; exact rfl)
    | ((with_reducible apply J.newP new_); exact rfl; exact rfl; trivial; intro _; (try dsimp only [List.cons_append, List.nil_append]))
    | ((with_reducible apply J.turnsP (text_w _ _ _)); exact rfl; exact rfl; (repeat (first | (with_reducible exact Outs.nil) | ((with_reducible apply Outs.cons); (repeat (first | with_reducible exact Out.here | with_reducible apply Out.there))))); (focus ((refine ⟨?_, ?_⟩ <;> first | omega | (simp; done) | (simp [tx_length, num_length]; done) | (simp [tx_length, num_length]; omega)))); (try dsimp only [List.cons_append, List.nil_append]))
    | ((with_reducible apply J.turnsP (num_w _ _ _)); exact rfl; exact rfl; (repeat (first | (with_reducible exact Outs.nil) | ((with_reducible apply Outs.cons); (repeat (first | with_reducible exact Out.here | with_reducible apply Out.there))))); (focus ((have hin := in_iff (by assumption); refine ⟨?_, ?_, ?_⟩ <;> first | omega | (simp [tx_length]; done) | (simp [tx_length]; omega)))); (try dsimp only [List.cons_append, List.nil_append]))
    | ((with_reducible apply J.turnsP (wide_w _ _ _)); exact rfl; exact rfl; (repeat (first | (with_reducible exact Outs.nil) | ((with_reducible apply Outs.cons); (repeat (first | with_reducible exact Out.here | with_reducible apply Out.there))))); (focus ((refine ⟨?_, ?_⟩ <;> first | omega | (simp [tx_length, num_length]; done) | (simp [tx_length, num_length]; omega)))); (try dsimp only [List.cons_append, List.nil_append]))
    | ((with_reducible apply J.doneP (done_ _ _)); exact rfl; exact rfl; (repeat (first | (with_reducible exact Outs.nil) | ((with_reducible apply Outs.cons); (repeat (first | with_reducible exact Out.here | with_reducible apply Out.there))))); (focus ((simp [tx_length, num_length, wb_length]; try omega))); intro _ _; (try dsimp only [List.cons_append, List.nil_append]))
    | refine J.one ?_
    | refine J.loudS ?_
    | (refine J.loudQ ?_; intro _ _)
    | (refine J.loudB ?_; intro _)
    | (with_reducible apply J.list)
    | ((with_reducible apply J.gsplit); exact rfl; exact rfl)
    | ((with_reducible first | apply J.cond | apply JC.cond); exact rfl)
    | (intro h; exfalso; fail)
    | (intro h; (try simp only [decide_eq_true_eq, decide_eq_false_iff_not, beq_iff_eq, beq_eq_false_iff_ne, Bool.not_eq_true', Bool.not_eq_false', bne_iff_ne, bne_eq_false_iff_eq, ne_eq, ge_iff_le, gt_iff_lt] at h))
    | (with_reducible apply J.gave')
    | ((with_reducible apply J.kept'); rotate_left; (repeat (first | (with_reducible exact Outs.nil) | ((with_reducible apply Outs.cons); (repeat (first | with_reducible exact Out.here | with_reducible apply Out.there))))))
  all_goals
    first
    | (have e : payF act k fee = [] := by unfold payF; exact if_neg (by intro hc; simp_all)
       rw [e]
       refine J.nilRow 5 1 ?_
       (with_reducible apply J.freshRow)
       (repeat (first | with_reducible exact Out.here | with_reducible apply Out.there))
       all_goals rfl)
    | (have e : payF act k fee = payB act k fee := by unfold payF; exact if_pos ⟨by assumption, by omega⟩
       rw [e]
       (with_reducible apply J.freshRow)
       (repeat (first | with_reducible exact Out.here | with_reducible apply Out.there))
       exact rfl
       exact rfl
       rfl)
    | (trace_state; fail)
end Go.Proofs.Ytfcaeifpclpnoaa.Deal
namespace Go.Proofs.Ytfcaeifpclpnoaa.Ots
open Go Go.RowKit Eng
set_option linter.unusedVariables false
set_option maxRecDepth 100000
set_option linter.unusedSimpArgs false
open Sha Iter Hash Bytes
set_option maxHeartbeats 1000000
open Go.Proofs.Ytfcaeifpclpnoaa.Hsum
/-- Whole numbers as cells. -/
def ncs (l : List Nat) : List Value := l.map fun (x : Nat) => .int .i64 (x : Int)
theorem ncs_length (l : List Nat) : (ncs l).length = l.length := by simp [ncs]
theorem ncs_append (l m : List Nat) : ncs (l ++ m) = ncs l ++ ncs m := by simp [ncs]
theorem ncs_get {l : List Nat} {i x : Nat} (h : l[i]? = some x) : (ncs l)[i]? = some (.int .i64 (x : Int)) := by simp [ncs, h]
theorem ncs_ones (l : List Nat) : (ncs l).all (·.oneCell') = true := by simp [ncs, Value.oneCell']
/-- A number's digits, the highest first. -/
def sp (n : Nat) : Nat → List Nat
  | 0 => []
  | k + 1 => sp (n / 4) k ++ [n % 4]
theorem sp_length : ∀ (k n : Nat), (sp n k).length = k
  | 0, _ => rfl
  | k + 1, n => by simp [sp, sp_length k]
theorem sp_get : ∀ {k n j : Nat}, j < k → (sp n k)[j]? = some (n / 4 ^ (k - 1 - j) % 4)
  | 0, _, j, h => by omega
  | k + 1, n, j, h => by
    rw [sp]
    rcases Nat.lt_or_ge j k with h1 | h1
    · rw [List.getElem?_append_left (by rw [sp_length]; exact h1), sp_get h1, Nat.div_div_eq_div_mul]
      congr 3
      rw [show k + 1 - 1 - j = (k - 1 - j) + 1 by omega, Nat.pow_succ, Nat.mul_comm]
    · have e : j = k := by omega
      subst e
      rw [List.getElem?_append_right (by rw [sp_length]; exact Nat.le_refl _), sp_length]
      simp
theorem sp_le {n k x : Nat} (h : x ∈ sp n k) : x ≤ 3 := by
  obtain ⟨j, hj, e⟩ := List.getElem_of_mem h
  have h1 := List.getElem?_eq_getElem hj
  rw [sp_length] at hj
  rw [sp_get hj, e] at h1
  cases h1
  omega
theorem sp_tab (n k : Nat) : ncs (sp n k) = tab (fun j => .int .i64 ((n / 4 ^ (k - 1 - j) % 4 : Nat) : Int)) k := by
  refine tab_eq (by rw [ncs_length, sp_length]) fun j hj => ?_
  rw [ncs_get (sp_get hj)]
theorem sum_take {l : List Nat} {i x : Nat} (h : l[i]? = some x) : (l.take (i + 1)).sum = (l.take i).sum + x := by
  rw [List.take_add_one, h]
  simp
theorem sum_le {l : List Nat} (h : ∀ x, x ∈ l → x ≤ 3) : l.sum ≤ 3 * l.length := by
  induction l with
  | nil => simp
  | cons a l ih =>
    have h1 := ih fun x hx => h x (by simp [hx])
    have h2 := h a (by simp)
    simp
    omega
theorem sum_take_le {n k i : Nat} : ((sp n k).take i).sum ≤ 3 * k := by
  have h := sum_le (l := (sp n k).take i) fun x hx => sp_le (List.mem_of_mem_take hx)
  have h2 : ((sp n k).take i).length ≤ k := by rw [List.length_take, sp_length]; omega
  omega
/-- The digits that are there with k rounds to go. -/
def dpart (n size k : Nat) (j : Nat) : Value := if k ≤ j then .int .i64 ((n / 4 ^ (size - 1 - j) % 4 : Nat) : Int) else .int .i64 0
theorem dpart_put {n size k : Nat} (hk : k < size) : tab (fun j => if j = k then Value.int .i64 ((n / 4 ^ (size - (k + 1)) % 4 : Nat) : Int) else dpart n size (k + 1) j) size = tab (dpart n size k) size := by
  refine tab_same fun j hj => ?_
  unfold dpart
  by_cases h : j = k
  · subst h
    rw [if_pos rfl, if_pos (Nat.le_refl _)]
    congr 5
    omega
  · rw [if_neg h]
    by_cases h2 : k ≤ j
    · rw [if_pos (by omega), if_pos h2]
    · rw [if_neg (by omega), if_neg h2]
theorem and64_low {m : Nat} (h1 : m < 9223372036854775808) (k : Nat) (hk : k ≤ 32) : andI .i64 (m : Int) ((2 ^ k - 1 : Nat) : Int) = ((m % 2 ^ k : Nat) : Int) := by
  have hp : 2 ^ k ≤ 4294967296 := Nat.le_trans (Nat.pow_le_pow_right (n := 2) (by omega) hk) (by omega)
  have hp0 := Nat.two_pow_pos k
  have e1 : (BitVec.ofInt IntKind.i64.bits (m : Int) &&& BitVec.ofInt IntKind.i64.bits ((2 ^ k - 1 : Nat) : Int)).toNat = m % 2 ^ k := by
    rw [BitVec.toNat_and, BitVec.ofInt_natCast, BitVec.ofInt_natCast, BitVec.toNat_ofNat, BitVec.toNat_ofNat]
    have b : IntKind.i64.bits = 64 := rfl
    rw [b, Nat.mod_eq_of_lt (by omega), Nat.mod_eq_of_lt (a := 2 ^ k - 1) (by omega), Nat.and_two_pow_sub_one_eq_mod]
  unfold andI
  rw [e1]
  have h2 := Nat.mod_lt m hp0
  exact wr64 (by omega) (by omega) rfl
theorem and3 {m : Nat} (h : m < 9223372036854775808) : andI .i64 (m : Int) 3 = ((m % 4 : Nat) : Int) := and64_low h 2 (by decide)
theorem shr2 {n size k : Nat} (hk : k < size) : ((n / 4 ^ (size - (k + 1)) : Nat) : Int).fdiv (2 ^ 2) = ((n / 4 ^ (size - k) : Nat) : Int) := by
  rw [Int.fdiv_eq_ediv_of_nonneg _ (by decide)]
  have e : size - k = size - (k + 1) + 1 := by omega
  rw [e, Nat.pow_succ, ← Nat.div_div_eq_div_mul]
  generalize n / 4 ^ (size - (k + 1)) = q
  omega
theorem divq (n k : Nat) : n / 4 ^ k ≤ n := Nat.div_le_self _ _
theorem spread_ (n size : Nat) (w : World) (hw : n ≤ 1099511627776 ∧ size ≤ 12) : CSpec Try.prog 132 [.int .i64 (n : Int), .int .i64 (size : Int)] [] w (Fresh 3 1 size (ncs (sp n size)) []) := by
  have hdv := fun k => divq n k
  refine spec_ownM Try.func132 rfl Try.ntmps132 rfl (l0 := [(0, .int .i64 (n : Int)), (1, .int .i64 (size : Int))]) rfl ?_
  refine J.noPanic ?_
  repeat' first
    | (refine J.qv ?_; (with_reducible apply exq); focus (first
      | ((with_reducible apply Qv.shr); exact rfl; exact rfl; (first | decide | omega); exact shr2 hk)
      | ((with_reducible apply Qv.andE); exact rfl; exact rfl; exact and3 (Nat.lt_of_le_of_lt (hdv _) (by omega)))
      | ((with_reducible apply Qv.indexBlk (b := b)); exact rfl; exact rfl; (constructor <;> omega); exact rfl)))
    | ((with_reducible apply J.makeSlice (len := size)); exact rfl; exact rfl; exact rfl; exact rfl; exact rfl; omega; decide; intro _)
    | ((with_reducible apply J.store1); exact rfl; exact rfl; exact rfl; (repeat (first | with_reducible exact Upd.here | with_reducible apply Upd.there)); exact tab_put (k := k) (by simp) hk; (rw [tab_length]; omega))
    | ((with_reducible apply J.iterB (backward_int _ _ _)); exact rfl; exact rfl; intro _)
    | refine J.one ?_
    | refine J.loudS ?_
    | (refine J.loudQ ?_; intro _ _)
    | (refine J.loudB ?_; intro _)
    | (with_reducible apply J.list)
    | ((with_reducible apply J.gsplit); exact rfl; exact rfl)
    | ((with_reducible first | apply J.cond | apply JC.cond); exact rfl)
    | (intro h; exfalso; fail)
    | (intro h; (try simp only [decide_eq_true_eq, decide_eq_false_iff_not, beq_iff_eq, beq_eq_false_iff_ne, Bool.not_eq_true', Bool.not_eq_false', bne_iff_ne, bne_eq_false_iff_eq, ne_eq, ge_iff_le, gt_iff_lt] at h))
    | (with_reducible apply J.gave')
    | ((with_reducible apply J.kept'); rotate_left; (repeat (first | (with_reducible exact Outs.nil) | ((with_reducible apply Outs.cons); (repeat (first | with_reducible exact Out.here | with_reducible apply Out.there))))))
  rename_i p2 b p5 Bs
  have e0 : n = n / 4 ^ (size - size) := by simp
  have e1 : tab (fun _ => Value.int .i64 0) size = tab (dpart n size size) size := tab_same fun j hj => by unfold dpart; rw [if_neg (by omega)]
  rw [e1]
  apply J.reB (b := p2) (C' := [.int .i64 ((n / 4 ^ (size - size) : Nat) : Int)])
  · (repeat (first | with_reducible exact Upd.here | with_reducible apply Upd.there))
  · rw [← e0]
  apply J.rangeG (ps := [11, 12]) (back_int Bs b size size (fun _ => 0) (by simp only [maxLen]; omega)) (fun _ (_ : Unit) => True) (fun k _ => [blk b (tab (dpart n size k) size) 3, blk p5 [.slice (some ⟨b, 0, none⟩) size size] 191, blk p2 [.int .i64 ((n / 4 ^ (size - k) : Nat) : Int)] 3, blk Bs [.slice (some ⟨b, 0, none⟩) size size] 191]) [falseA] (fun k => [(6, .int .i64 (k : Int)), (5, .pointer (some ⟨p5, 0, none⟩)), (2, .pointer (some ⟨p2, 0, none⟩))]) ()
  case hg => rfl
  case hps => rfl
  case hlen => exact fun k => rfl
  case hF => exact fun k _ W _ s => ⟨s.cell (.tail _ (.tail _ (.tail _ (.head _)))) rfl, fun j hj hlt => s.cell (.head _) (by subst hj; rw [tab_get hlt]; unfold dpart; rw [if_neg (by omega)])⟩
  case hI => trivial
  case ho => ((try dsimp only); (repeat (first | (with_reducible exact Outs.nil) | ((with_reducible apply Outs.cons); (repeat (first | with_reducible exact Out.here | with_reducible apply Out.there))))))
  case hm => kernel_rfl
  case hka => rfl
  case hkb => rfl
  case hassign =>
    intro k A
    try dsimp only [putSl]
    repeat' first
      | (refine J.qv ?_; (with_reducible apply exq); focus (first
        | ((with_reducible apply Qv.shr); exact rfl; exact rfl; (first | decide | omega); exact shr2 hk)
        | ((with_reducible apply Qv.andE); exact rfl; exact rfl; exact and3 (Nat.lt_of_le_of_lt (hdv _) (by omega)))
        | ((with_reducible apply Qv.indexBlk (b := b)); exact rfl; exact rfl; (constructor <;> omega); exact rfl)))
      | ((with_reducible apply J.makeSlice (len := size)); exact rfl; exact rfl; exact rfl; exact rfl; exact rfl; omega; decide; intro _)
      | ((with_reducible apply J.store1); exact rfl; exact rfl; exact rfl; (repeat (first | with_reducible exact Upd.here | with_reducible apply Upd.there)); exact tab_put (k := k) (by simp) hk; (rw [tab_length]; omega))
      | ((with_reducible apply J.iterB (backward_int _ _ _)); exact rfl; exact rfl; intro _)
      | refine J.one ?_
      | refine J.loudS ?_
      | (refine J.loudQ ?_; intro _ _)
      | (refine J.loudB ?_; intro _)
      | (with_reducible apply J.list)
      | ((with_reducible apply J.gsplit); exact rfl; exact rfl)
      | ((with_reducible first | apply J.cond | apply JC.cond); exact rfl)
      | (intro h; exfalso; fail)
      | (intro h; (try simp only [decide_eq_true_eq, decide_eq_false_iff_not, beq_iff_eq, beq_eq_false_iff_ne, Bool.not_eq_true', Bool.not_eq_false', bne_iff_ne, bne_eq_false_iff_eq, ne_eq, ge_iff_le, gt_iff_lt] at h))
      | (with_reducible apply J.gave')
      | ((with_reducible apply J.kept'); rotate_left; (repeat (first | (with_reducible exact Outs.nil) | ((with_reducible apply Outs.cons); (repeat (first | with_reducible exact Out.here | with_reducible apply Out.there))))))
    all_goals ((try dsimp only); apply J.stE; ((try dsimp only); repeat (first | exact sub.nil _ | (refine sub.consE rfl ?_ ?_; (first | with_reducible rfl | (fail) | rfl)))))
  case hbody =>
    rintro ll D rc k ⟨⟩ hk _
    try dsimp only at *
    repeat' first
      | (refine J.qv ?_; (with_reducible apply exq); focus (first
        | ((with_reducible apply Qv.shr); exact rfl; exact rfl; (first | decide | omega); exact shr2 hk)
        | ((with_reducible apply Qv.andE); exact rfl; exact rfl; exact and3 (Nat.lt_of_le_of_lt (hdv _) (by omega)))
        | ((with_reducible apply Qv.indexBlk (b := b)); exact rfl; exact rfl; (constructor <;> omega); exact rfl)))
      | ((with_reducible apply J.makeSlice (len := size)); exact rfl; exact rfl; exact rfl; exact rfl; exact rfl; omega; decide; intro _)
      | ((with_reducible apply J.store1); exact rfl; exact rfl; exact rfl; (repeat (first | with_reducible exact Upd.here | with_reducible apply Upd.there)); exact tab_put (k := k) (by simp) hk; (rw [tab_length]; omega))
      | ((with_reducible apply J.iterB (backward_int _ _ _)); exact rfl; exact rfl; intro _)
      | refine J.one ?_
      | refine J.loudS ?_
      | (refine J.loudQ ?_; intro _ _)
      | (refine J.loudB ?_; intro _)
      | (with_reducible apply J.list)
      | ((with_reducible apply J.gsplit); exact rfl; exact rfl)
      | ((with_reducible first | apply J.cond | apply JC.cond); exact rfl)
      | (intro h; exfalso; fail)
      | (intro h; (try simp only [decide_eq_true_eq, decide_eq_false_iff_not, beq_iff_eq, beq_eq_false_iff_ne, Bool.not_eq_true', Bool.not_eq_false', bne_iff_ne, bne_eq_false_iff_eq, ne_eq, ge_iff_le, gt_iff_lt] at h))
      | (with_reducible apply J.gave')
      | ((with_reducible apply J.kept'); rotate_left; (repeat (first | (with_reducible exact Outs.nil) | ((with_reducible apply Outs.cons); (repeat (first | with_reducible exact Out.here | with_reducible apply Out.there))))))
    all_goals
      first
      | (rw [dpart_put hk]
         apply J.lvN () trivial
         (dsimp only [List.cons_append, List.nil_append]; (repeat (first | (with_reducible exact Outs.nil) | ((with_reducible apply Outs.cons); (repeat (first | with_reducible exact Out.here | with_reducible apply Out.there)))))))
      | (trace_state; fail)
  case hdone =>
    rintro ⟨⟩ _ D
    try dsimp only at *
    repeat' first
      | (refine J.qv ?_; (with_reducible apply exq); focus (first
        | ((with_reducible apply Qv.shr); exact rfl; exact rfl; (first | decide | omega); exact shr2 hk)
        | ((with_reducible apply Qv.andE); exact rfl; exact rfl; exact and3 (Nat.lt_of_le_of_lt (hdv _) (by omega)))
        | ((with_reducible apply Qv.indexBlk (b := b)); exact rfl; exact rfl; (constructor <;> omega); exact rfl)))
      | ((with_reducible apply J.makeSlice (len := size)); exact rfl; exact rfl; exact rfl; exact rfl; exact rfl; omega; decide; intro _)
      | ((with_reducible apply J.store1); exact rfl; exact rfl; exact rfl; (repeat (first | with_reducible exact Upd.here | with_reducible apply Upd.there)); exact tab_put (k := k) (by simp) hk; (rw [tab_length]; omega))
      | ((with_reducible apply J.iterB (backward_int _ _ _)); exact rfl; exact rfl; intro _)
      | refine J.one ?_
      | refine J.loudS ?_
      | (refine J.loudQ ?_; intro _ _)
      | (refine J.loudB ?_; intro _)
      | (with_reducible apply J.list)
      | ((with_reducible apply J.gsplit); exact rfl; exact rfl)
      | ((with_reducible first | apply J.cond | apply JC.cond); exact rfl)
      | (intro h; exfalso; fail)
      | (intro h; (try simp only [decide_eq_true_eq, decide_eq_false_iff_not, beq_iff_eq, beq_eq_false_iff_ne, Bool.not_eq_true', Bool.not_eq_false', bne_iff_ne, bne_eq_false_iff_eq, ne_eq, ge_iff_le, gt_iff_lt] at h))
      | (with_reducible apply J.gave')
      | ((with_reducible apply J.kept'); rotate_left; (repeat (first | (with_reducible exact Outs.nil) | ((with_reducible apply Outs.cons); (repeat (first | with_reducible exact Out.here | with_reducible apply Out.there))))))
    all_goals
      first
      | (exact J.freshBlk (by (repeat (first | with_reducible exact Out.here | with_reducible apply Out.there))) (by rw [sp_tab]; refine tab_same fun j hj => ?_; unfold dpart; rw [if_pos (Nat.zero_le _)]) (by rw [ncs_length, sp_length]; omega) (by simp only [maxLen]; omega))
      | (trace_state; fail)
  case hstop =>
    intro D
    exact J.absurd_ (.there .here)
/-- A text's digits. -/
def dg1 (l : List UInt8) : List Nat := sp (be ((sha l).take 3)) 12
def dgs (l : List UInt8) : List Nat := dg1 l ++ sp (36 - (dg1 l).sum) 3
theorem dgs_length (l : List UInt8) : (dgs l).length = 15 := by simp [dgs, dg1, sp_length]
theorem dgs_le {l : List UInt8} {x : Nat} (h : x ∈ dgs l) : x ≤ 3 := by
  simp only [dgs, List.mem_append] at h
  rcases h with h | h <;> exact sp_le h
theorem be3 (l : List UInt8) : be ((sha l).take 3) < 16777216 := by
  have h := be_lt ((sha l).take 3)
  rw [List.length_take, sha_length] at h
  exact h
theorem digits_ (ao : Option Addr) (n cap : Nat) (l : List UInt8) (w : World) (hw : Rd w ao (bcs l) ∧ n = l.length ∧ l.length ≤ 1099511627776) : CSpec Try.prog 124 [.slice ao n cap] [] w (Fresh 3 1 15 (ncs (dgs l)) []) := by
  obtain ⟨hr, rfl, hl⟩ := hw
  have hb := be3 l
  refine spec_own0 Try.func124 rfl Try.ntmps124 rfl (l0 := [(0, .slice ao l.length cap)]) rfl ?_
  repeat' first
    | (refine J.qv ?_; (with_reducible apply exq); focus (first
      | ((with_reducible apply Qv.sliceTo (k := 3)); exact rfl; exact rfl; exact rfl; omega)))
    | ((with_reducible apply J.freshR (sum_ _ _ _ l)); exact rfl; exact rfl; (focus ((refine RH.and (RH.old hr) (RH.of ⟨rfl, hl⟩)))); intro _ _)
    | ((with_reducible apply J.givesR (int_ _ _ _ ((sha l).take 3))); exact rfl; exact rfl; focus ((refine RH.and (RH.take (RH.row (by (repeat (first | with_reducible exact In.here | with_reducible apply In.there))))) (RH.of ⟨?_, ?_, ?_⟩) <;> first | omega | (rw [List.length_take, sha_length]; omega))))
    | ((with_reducible apply J.freshR (spread_ (be ((sha l).take 3)) 12)); exact rfl; exact rfl; (focus ((refine RH.of ⟨?_, ?_⟩ <;> omega))); intro _ _)
    | refine J.one ?_
    | refine J.loudS ?_
    | (refine J.loudQ ?_; intro _ _)
    | (refine J.loudB ?_; intro _)
    | (with_reducible apply J.list)
    | ((with_reducible apply J.gsplit); exact rfl; exact rfl)
    | ((with_reducible first | apply J.cond | apply JC.cond); exact rfl)
    | (intro h; exfalso; fail)
    | (intro h; (try simp only [decide_eq_true_eq, decide_eq_false_iff_not, beq_iff_eq, beq_eq_false_iff_ne, Bool.not_eq_true', Bool.not_eq_false', bne_iff_ne, bne_eq_false_iff_eq, ne_eq, ge_iff_le, gt_iff_lt] at h))
    | (with_reducible apply J.gave')
    | ((with_reducible apply J.kept'); rotate_left; (repeat (first | (with_reducible exact Outs.nil) | ((with_reducible apply Outs.cons); (repeat (first | with_reducible exact Out.here | with_reducible apply Out.there))))))
  rename_i q hq
  rw [show sp (be ((sha l).take 3)) 12 = dg1 l from rfl]
  apply J.loopI (σ := Nat) (I := fun s => (s ≤ 12)) (L := fun s => [(3, .slice q.1 12 q.2), (12, .slice q.1 12 q.2), (13, .int .i64 12), (14, .int .i64 (s : Int)), (4, .int .i64 ((36 - ((dg1 l).take s).sum : Nat) : Int))]) (HH := fun s => [row (.slice q.1 12 q.2) 3 1 12 (ncs (dg1 l))]) (m := fun s => 12 - s) (s0 := 0)
  · ((try dsimp only); (exact Nat.zero_le _))
  · ((try dsimp only); repeat (first | exact sub.nil _ | (refine sub.consE rfl ?_ ?_; (first | with_reducible rfl | (fail) | rfl))))
  · ((try dsimp only); (repeat (first | (with_reducible exact Outs.nil) | ((with_reducible apply Outs.cons); (repeat (first | with_reducible exact Out.here | with_reducible apply Out.there))))))
  rintro i hI
  try dsimp only at hI ⊢
  have hs0 : ((dg1 l).take i).sum ≤ 36 := sum_take_le
  have hs1 : ((dg1 l).take (i + 1)).sum ≤ 36 := sum_take_le
  have hln : (dg1 l).length = 12 := sp_length _ _
  have hx2 : ∀ x, (dg1 l)[i]? = some x → ((dg1 l).take (i + 1)).sum = ((dg1 l).take i).sum + x := fun x h => sum_take h
  obtain ⟨x, hx⟩ : ∃ x, i < 12 → (dg1 l)[i]? = some x := by
    by_cases h : i < 12
    · exact ⟨(dg1 l)[i]'(by omega), fun _ => List.getElem?_eq_getElem _⟩
    · exact ⟨0, fun h' => absurd h' h⟩
  rcases Nat.lt_or_ge i 12 with hlt | hge
  · have hx := hx hlt
    have hx2 := hx2 x hx
    have hx3 : x ≤ 3 := sp_le (List.mem_of_getElem? hx)
    repeat' first
      | (refine J.qv ?_; (with_reducible apply exq); focus (first
        | ((with_reducible apply Qv.sub); exact rfl; exact rfl; exact wr64 (z := ((36 - ((dg1 l).take (i + 1)).sum : Nat) : Int)) (by omega) (by omega) (by omega))))
      | (refine J.qr ?_; (with_reducible apply exq); focus (first
        | ((with_reducible apply Qr.indexRd (k := i) (C := ncs (dg1 l))); exact rfl; exact rfl; exact rfl; (first | omega | (rw [ncs_length, dg1, sp_length]; omega)); exact RH.row (by (repeat (first | with_reducible exact In.here | with_reducible apply In.there))); (first | omega | (rw [ncs_length, dg1, sp_length]; omega)))
        | ((with_reducible apply Qr.rd1 (C := ncs (dg1 l))); exact rfl; exact RH.row (by (repeat (first | with_reducible exact In.here | with_reducible apply In.there))); (rw [Nat.mul_one]; exact ncs_get hx))))
      | ((with_reducible apply J.appendR (news := ncs (sp (36 - ((dg1 l).take 12).sum) 3))); exact rfl; exact rfl; (repeat (first | with_reducible exact Out.here | with_reducible apply Out.there)); exact rfl; exact RH.row (by (repeat (first | with_reducible exact In.here | with_reducible apply In.there))); (rw [ncs_length, sp_length]); exact ncs_ones _; exact rfl; exact rfl; (simp only [maxLen]; omega); omega; intro _ _)
      | ((with_reducible apply J.freshR (spread_ (36 - ((dg1 l).take 12).sum) 3)); exact rfl; exact rfl; (focus ((refine RH.of ⟨?_, ?_⟩ <;> omega))); intro _ _)
      | refine J.one ?_
      | refine J.loudS ?_
      | (refine J.loudQ ?_; intro _ _)
      | (refine J.loudB ?_; intro _)
      | (with_reducible apply J.list)
      | ((with_reducible apply J.gsplit); exact rfl; exact rfl)
      | ((with_reducible first | apply J.cond | apply JC.cond); exact rfl)
      | (intro h; exfalso; (first | (simp at h; done) | (simp at h; omega) | omega))
      | (intro h; (try simp only [decide_eq_true_eq, decide_eq_false_iff_not, beq_iff_eq, beq_eq_false_iff_ne, Bool.not_eq_true', Bool.not_eq_false', bne_iff_ne, bne_eq_false_iff_eq, ne_eq, ge_iff_le, gt_iff_lt] at h))
      | (with_reducible apply J.gave')
      | ((with_reducible apply J.kept'); rotate_left; (repeat (first | (with_reducible exact Outs.nil) | ((with_reducible apply Outs.cons); (repeat (first | with_reducible exact Out.here | with_reducible apply Out.there))))))
    all_goals
      first
      | (apply J.againI (s := i) (s' := (i + 1)); (focus (omega)); (focus ((try dsimp only); (show i + 1 ≤ 12; omega))); (focus (((try dsimp only); repeat (first | exact sub.nil _ | (refine sub.consE rfl ?_ ?_; (first | with_reducible rfl | ((focus (congr 1; omega))) | rfl)))))); ((try dsimp only); (repeat (first | (with_reducible exact Outs.nil) | ((with_reducible apply Outs.cons); (repeat (first | with_reducible exact Out.here | with_reducible apply Out.there)))))))
      | (trace_state; fail)
  · obtain rfl : i = 12 := by omega
    repeat' first
      | (refine J.qv ?_; (with_reducible apply exq); focus (first
        | ((with_reducible apply Qv.sub); exact rfl; exact rfl; exact wr64 (z := ((36 - ((dg1 l).take (i + 1)).sum : Nat) : Int)) (by omega) (by omega) (by omega))))
      | (refine J.qr ?_; (with_reducible apply exq); focus (first
        | ((with_reducible apply Qr.indexRd (k := i) (C := ncs (dg1 l))); exact rfl; exact rfl; exact rfl; (first | omega | (rw [ncs_length, dg1, sp_length]; omega)); exact RH.row (by (repeat (first | with_reducible exact In.here | with_reducible apply In.there))); (first | omega | (rw [ncs_length, dg1, sp_length]; omega)))
        | ((with_reducible apply Qr.rd1 (C := ncs (dg1 l))); exact rfl; exact RH.row (by (repeat (first | with_reducible exact In.here | with_reducible apply In.there))); (rw [Nat.mul_one]; exact ncs_get hx))))
      | ((with_reducible apply J.appendR (news := ncs (sp (36 - ((dg1 l).take 12).sum) 3))); exact rfl; exact rfl; (repeat (first | with_reducible exact Out.here | with_reducible apply Out.there)); exact rfl; exact RH.row (by (repeat (first | with_reducible exact In.here | with_reducible apply In.there))); (rw [ncs_length, sp_length]); exact ncs_ones _; exact rfl; exact rfl; (simp only [maxLen]; omega); omega; intro _ _)
      | ((with_reducible apply J.freshR (spread_ (36 - ((dg1 l).take 12).sum) 3)); exact rfl; exact rfl; (focus ((refine RH.of ⟨?_, ?_⟩ <;> omega))); intro _ _)
      | refine J.one ?_
      | refine J.loudS ?_
      | (refine J.loudQ ?_; intro _ _)
      | (refine J.loudB ?_; intro _)
      | (with_reducible apply J.list)
      | ((with_reducible apply J.gsplit); exact rfl; exact rfl)
      | ((with_reducible first | apply J.cond | apply JC.cond); exact rfl)
      | (intro h; exfalso; (first | (simp at h; done) | (simp at h; omega) | omega))
      | (intro h; (try simp only [decide_eq_true_eq, decide_eq_false_iff_not, beq_iff_eq, beq_eq_false_iff_ne, Bool.not_eq_true', Bool.not_eq_false', bne_iff_ne, bne_eq_false_iff_eq, ne_eq, ge_iff_le, gt_iff_lt] at h))
      | (with_reducible apply J.gave')
      | ((with_reducible apply J.kept'); rotate_left; (repeat (first | (with_reducible exact Outs.nil) | ((with_reducible apply Outs.cons); (repeat (first | with_reducible exact Out.here | with_reducible apply Out.there))))))
    all_goals
      first
      | (have e : (dg1 l).take 12 = dg1 l := List.take_of_length_le (by omega)
         rw [e]
         ((with_reducible apply J.freshRow); (repeat (first | with_reducible exact Out.here | with_reducible apply Out.there)); exact rfl; exact rfl; exact (ncs_append _ _).symm))
      | (trace_state; fail)
/-- So many steps. -/
def wk (s : List UInt8) : Nat → List UInt8
  | 0 => s
  | k + 1 => short (wk s k)
theorem wk_le {s : List UInt8} {m : Nat} (h : s.length ≤ m) (h8 : 8 ≤ m) : ∀ k, (wk s k).length ≤ m
  | 0 => h
  | k + 1 => by rw [wk, short_length]; exact h8
theorem clamp3 {k : Nat} (h : k ≤ 3) : imin (imax (k : Int) 0) 3 = (k : Int) := by unfold imin imax; split <;> split <;> omega
theorem walk_ (s : List UInt8) (k : Nat) (w : World) (hw : k ≤ 3 ∧ s.length ≤ 1099511627776) : CSpec Try.prog 125 [str s, .int .i64 (k : Int)] [] w (Gives (str (wk s k))) := by
  obtain ⟨h3, hl⟩ := hw
  refine spec_own0 Try.func125 rfl Try.ntmps125 rfl (l0 := [(0, str s), (1, .int .i64 (k : Int))]) rfl ?_
  repeat' first
    | ((with_reducible apply J.givesR (short_ _ _ _ [wk s i])); exact rfl; exact rfl; focus (exact RH.and (RH.sblk (by (repeat (first | with_reducible exact In.here | with_reducible apply In.there))) (RH.lcons (RH.bbat (by (repeat (first | with_reducible exact In.here | with_reducible apply In.there)))) RH.lnil)) (RH.of ⟨rfl, by simp; omega, by simp⟩)))
    | refine J.one ?_
    | refine J.loudS ?_
    | (refine J.loudQ ?_; intro _ _)
    | (refine J.loudB ?_; intro _)
    | (with_reducible apply J.list)
    | ((with_reducible apply J.gsplit); exact rfl; exact rfl)
    | ((with_reducible first | apply J.cond | apply JC.cond); exact rfl)
    | (intro h; exfalso; (first | (simp at h; done) | (simp at h; omega) | omega))
    | (intro h; (try simp only [decide_eq_true_eq, decide_eq_false_iff_not, beq_iff_eq, beq_eq_false_iff_ne, Bool.not_eq_true', Bool.not_eq_false', bne_iff_ne, bne_eq_false_iff_eq, ne_eq, ge_iff_le, gt_iff_lt] at h))
    | (with_reducible apply J.gave')
    | ((with_reducible apply J.kept'); rotate_left; (repeat (first | (with_reducible exact Outs.nil) | ((with_reducible apply Outs.cons); (repeat (first | with_reducible exact Out.here | with_reducible apply Out.there))))))
  rw [clamp3 h3]
  apply J.loopI (σ := Nat) (I := fun q => (q ≤ k)) (L := fun q => [(0, str (wk s q)), (7, .int .i64 (k : Int)), (8, .int .i64 (q : Int))]) (HH := fun q => []) (m := fun q => k - q) (s0 := 0)
  · ((try dsimp only); (exact Nat.zero_le _))
  · ((try dsimp only); repeat (first | exact sub.nil _ | (refine sub.consE rfl ?_ ?_; (first | with_reducible rfl | (fail) | rfl))))
  · ((try dsimp only); (repeat (first | (with_reducible exact Outs.nil) | ((with_reducible apply Outs.cons); (repeat (first | with_reducible exact Out.here | with_reducible apply Out.there))))))
  rintro i hI
  try dsimp only at hI ⊢
  have hwl := wk_le hl (by omega) i
  repeat' first
    | ((with_reducible apply J.givesR (short_ _ _ _ [wk s i])); exact rfl; exact rfl; focus (exact RH.and (RH.sblk (by (repeat (first | with_reducible exact In.here | with_reducible apply In.there))) (RH.lcons (RH.bbat (by (repeat (first | with_reducible exact In.here | with_reducible apply In.there)))) RH.lnil)) (RH.of ⟨rfl, by simp; omega, by simp⟩)))
    | refine J.one ?_
    | refine J.loudS ?_
    | (refine J.loudQ ?_; intro _ _)
    | (refine J.loudB ?_; intro _)
    | (with_reducible apply J.list)
    | ((with_reducible apply J.gsplit); exact rfl; exact rfl)
    | ((with_reducible first | apply J.cond | apply JC.cond); exact rfl)
    | (intro h; exfalso; (first | (simp at h; done) | (simp at h; omega) | omega))
    | (intro h; (try simp only [decide_eq_true_eq, decide_eq_false_iff_not, beq_iff_eq, beq_eq_false_iff_ne, Bool.not_eq_true', Bool.not_eq_false', bne_iff_ne, bne_eq_false_iff_eq, ne_eq, ge_iff_le, gt_iff_lt] at h))
    | (with_reducible apply J.gave')
    | ((with_reducible apply J.kept'); rotate_left; (repeat (first | (with_reducible exact Outs.nil) | ((with_reducible apply Outs.cons); (repeat (first | with_reducible exact Out.here | with_reducible apply Out.there))))))
  all_goals
    first
    | (have e0 : i = k := by omega
       subst e0
       rfl)
    | (apply J.againI (s := i) (s' := (i + 1)); (focus (omega)); (focus ((try dsimp only); omega)); (focus (((try dsimp only); repeat (first | exact sub.nil _ | (refine sub.consE rfl ?_ ?_; (first | with_reducible rfl | ((focus (first | (congr 1; omega) | (simp only [List.flatten_cons, List.flatten_nil, List.append_nil]; rfl)))) | rfl)))))); ((try dsimp only); (repeat (first | (with_reducible exact Outs.nil) | ((with_reducible apply Outs.cons); (repeat (first | with_reducible exact Out.here | with_reducible apply Out.there)))))))
    | (trace_state; fail)
section
variable {c : Cx} {l : TL} {H : List Asrt}
theorem J.batPack {v : Value} {bs : List UInt8} {V : List Value} {L : List (List UInt8)} {H1 H2 : List Asrt} {G : Act → World → Prop} (h1 : Out (bAt v bs) H H1) (h2 : Out (sepA (bsA V L)) H1 H2) (hl : V.length = L.length)
    (K : J c l (sepA (bsA (V ++ [v]) (L ++ [bs])) :: H2) G) : J c l H G := J.mk fun a w s => by
  have s1 := (s.2.2.perm h1.perm).perm (h2.perm.cons _)
  obtain ⟨fp, ⟨f, g, rfl, ha, f', g', rfl, hb, hg⟩, hnd, hi, hf⟩ := s1
  refine K.out a w ⟨s.1, s.2.1, (f' ++ f) ++ g', ⟨f' ++ f, g', rfl, ?_, hg⟩, ?_, ?_, hf⟩
  · have key : ∀ {V : List Value} {L : List (List UInt8)} {f'}, V.length = L.length → Holds (hp w) (bsA V L) f' → Holds (hp w) (bsA (V ++ [v]) (L ++ [bs])) (f' ++ f) := by
      intro V
      induction V with
      | nil =>
        intro L f' hl hh
        cases L with
        | nil =>
          obtain rfl : f' = [] := hh
          exact ⟨f, [], by simp, ha, rfl⟩
        | cons _ _ => simp at hl
      | cons u V ih =>
        intro L f' hl hh
        cases L with
        | nil => simp at hl
        | cons m L =>
          obtain ⟨f1, f2, rfl, h1, h2⟩ := hh
          exact ⟨f1, f2 ++ f, by simp, h1, ih (by simpa using hl) h2⟩
    exact key hl hb
  · have p : (f ++ (f' ++ g')).Perm ((f' ++ f) ++ g') := by
      rw [← List.append_assoc]
      exact List.perm_append_comm.append_right g'
    exact p.nodup_iff.1 hnd
  · intro i hi'
    refine hi i ?_
    simp only [List.mem_append] at hi' ⊢
    rcases hi' with (h | h) | h
    · exact .inr (.inl h)
    · exact .inl h
    · exact .inr (.inr h)
end
/-- Texts as cells. -/
def scs (l : List (List UInt8)) : List Value := l.map str
theorem scs_length (l : List (List UInt8)) : (scs l).length = l.length := by simp [scs]
theorem scs_append (l m : List (List UInt8)) : scs (l ++ m) = scs l ++ scs m := by simp [scs]
theorem scs_get {l : List (List UInt8)} {i : Nat} {x : List UInt8} (h : l[i]? = some x) : (scs l)[i]? = some (str x) := by simp [scs, h]
theorem scs_ones (l : List (List UInt8)) : (scs l).all (·.oneCell') = true := by simp [scs, Value.oneCell']
/-- Each walked the rest. -/
def closedL (P : List (List UInt8)) (F : List Nat) : List (List UInt8) := List.zipWith (fun p d => wk p (3 - d)) P F
theorem closedL_get {P : List (List UInt8)} {F : List Nat} {i d : Nat} {p : List UInt8} (h1 : P[i]? = some p) (h2 : F[i]? = some d) : (closedL P F)[i]? = some (wk p (3 - d)) := by
  unfold closedL
  rw [List.getElem?_zipWith, h1, h2]
theorem closedL_length {P : List (List UInt8)} {F : List Nat} (h : F.length = P.length) : (closedL P F).length = P.length := by simp [closedL, h]
theorem take_snoc {α : Type} {L : List α} {i : Nat} {x : α} (h : L[i]? = some x) : L.take (i + 1) = L.take i ++ [x] := by
  rw [List.take_add_one, h]
  rfl
theorem flat_max {m : Nat} : ∀ {L : List (List UInt8)}, (∀ x, x ∈ L → x.length ≤ m) → L.flatten.length ≤ m * L.length
  | [], _ => by simp
  | a :: L, h => by
    have h1 := flat_max (L := L) fun x hx => h x (by simp [hx])
    have h2 := h a (by simp)
    simp only [List.flatten_cons, List.length_append, List.length_cons, Nat.mul_add, Nat.mul_one]
    omega
theorem closedL_le {P : List (List UInt8)} {F : List Nat} (h : ∀ p, p ∈ P → p.length ≤ 8) : ∀ x, x ∈ closedL P F → x.length ≤ 8 := by
  intro x hx
  unfold closedL at hx
  obtain ⟨i, hi, e⟩ := List.getElem_of_mem hx
  rw [List.getElem_zipWith] at e
  subst e
  exact wk_le (h _ (List.getElem_mem _)) (Nat.le_refl _) _
theorem closed_ (ao : Option Addr) (n cap : Nat) (P : List (List UInt8)) (aof : Option Addr) (m capf : Nat) (F : List Nat) (w : World) (hw : (Rd w ao (scs P) ∧ Rd w aof (ncs F)) ∧ n = P.length ∧ m = F.length ∧ F.length = P.length ∧ (∀ x, x ∈ F → x ≤ 3) ∧ (∀ p, p ∈ P → p.length ≤ 8) ∧ P.length ≤ 1000) : CSpec Try.prog 119 [.slice ao n cap, .slice aof m capf] [] w (Gives (str (short (closedL P F).flatten))) := by
  obtain ⟨⟨hP, hF⟩, rfl, rfl, hl, h3, h8, hm⟩ := hw
  have hcl := closedL_length hl
  have hfm := flat_max (closedL_le (F := F) h8)
  refine spec_own0 Try.func119 rfl Try.ntmps119 rfl (l0 := [(0, .slice ao P.length cap), (1, .slice aof F.length capf)]) rfl ?_
  repeat' first
    | refine J.one ?_
    | refine J.loudS ?_
    | (refine J.loudQ ?_; intro _ _)
    | (refine J.loudB ?_; intro _)
    | (with_reducible apply J.list)
    | ((with_reducible apply J.gsplit); exact rfl; exact rfl)
    | ((with_reducible first | apply J.cond | apply JC.cond); exact rfl)
    | (intro h; exfalso; fail)
    | (intro h; (try simp only [decide_eq_true_eq, decide_eq_false_iff_not, beq_iff_eq, beq_eq_false_iff_ne, Bool.not_eq_true', Bool.not_eq_false', bne_iff_ne, bne_eq_false_iff_eq, ne_eq, ge_iff_le, gt_iff_lt] at h))
    | (with_reducible apply J.gave')
    | ((with_reducible apply J.kept'); rotate_left; (repeat (first | (with_reducible exact Outs.nil) | ((with_reducible apply Outs.cons); (repeat (first | with_reducible exact Out.here | with_reducible apply Out.there))))))
  refine J.nilRow 54 1 ?_
  refine J.packNil ?_
  rw [show ([] : List (List UInt8)) = (closedL P F).take 0 from rfl]
  apply J.loopI (σ := (Nat × (Option Addr × Nat) × List Value)) (I := fun s => (s.1 ≤ P.length ∧ s.2.2.length = s.1)) (L := fun s => [(1, .slice aof F.length capf), (8, .slice ao P.length cap), (9, .int .i64 (P.length : Int)), (10, .int .i64 (s.1 : Int)), (5, .slice s.2.1.1 s.1 s.2.1.2)]) (HH := fun s => [row (.slice s.2.1.1 s.1 s.2.1.2) 54 1 s.1 s.2.2, sepA (bsA s.2.2 ((closedL P F).take s.1))]) (m := fun s => P.length - s.1) (s0 := (0, (none, 0), []))
  · ((try dsimp only); (exact ⟨Nat.zero_le _, rfl⟩))
  · ((try dsimp only); repeat (first | exact sub.nil _ | (refine sub.consE rfl ?_ ?_; (first | with_reducible rfl | (fail) | rfl))))
  · ((try dsimp only); (repeat (first | (with_reducible exact Outs.nil) | ((with_reducible apply Outs.cons); (repeat (first | with_reducible exact Out.here | with_reducible apply Out.there))))))
  rintro ⟨i, q, V⟩ ⟨hI, hV⟩
  try dsimp only at *
  rcases Nat.lt_or_ge i P.length with hlt | hge
  · obtain ⟨p, hp⟩ : ∃ p, P[i]? = some p := ⟨_, List.getElem?_eq_getElem hlt⟩
    obtain ⟨d, hd⟩ : ∃ d, F[i]? = some d := ⟨_, List.getElem?_eq_getElem (by omega)⟩
    have hd3 := h3 d (List.mem_of_getElem? hd)
    have hp8 := h8 p (List.mem_of_getElem? hp)
    have hts := take_snoc (closedL_get hp hd)
    have htl : ((closedL P F).take i).length = i := by rw [List.length_take]; omega
    repeat' first
      | (refine J.qv ?_; (with_reducible apply exq); focus (first
        | ((with_reducible apply Qv.sub); exact rfl; exact rfl; exact wr64 (z := ((3 - d : Nat) : Int)) (by omega) (by omega) (by omega))))
      | (refine J.qr ?_; (with_reducible apply exq); focus (first
        | ((with_reducible apply Qr.indexRd (k := i) (C := scs P)); exact rfl; exact rfl; exact rfl; (first | omega | (rw [scs_length]; omega)); exact RH.old hP; (first | omega | (rw [scs_length]; omega)))
        | ((with_reducible apply Qr.rd1 (C := scs P)); exact rfl; exact RH.old hP; (rw [Nat.mul_one]; exact scs_get hp))
        | ((with_reducible apply Qr.indexRd (k := i) (C := ncs F)); exact rfl; exact rfl; exact rfl; (first | omega | (rw [ncs_length]; omega)); exact RH.old hF; (first | omega | (rw [ncs_length]; omega)))
        | ((with_reducible apply Qr.rd1 (C := ncs F)); exact rfl; exact RH.old hF; (rw [Nat.mul_one]; exact ncs_get hd))))
      | ((with_reducible apply J.appendR (news := [_])); exact rfl; exact rfl; (repeat (first | with_reducible exact Out.here | with_reducible apply Out.there)); exact rfl; exact RH.blk0 (by (repeat (first | with_reducible exact In.here | with_reducible apply In.there))); exact rfl; exact rfl; exact rfl; exact rfl; (simp only [maxLen]; omega); omega; intro _ _)
      | ((with_reducible apply J.givesR (walk_ p (3 - d))); exact rfl; exact rfl; focus (refine RH.of ⟨?_, ?_⟩ <;> omega))
      | refine J.one ?_
      | refine J.loudS ?_
      | (refine J.loudQ ?_; intro _ _)
      | (refine J.loudB ?_; intro _)
      | (with_reducible apply J.list)
      | ((with_reducible apply J.gsplit); exact rfl; exact rfl)
      | ((with_reducible first | apply J.cond | apply JC.cond); exact rfl)
      | (intro h; exfalso; (first | (simp at h; done) | (simp at h; omega) | omega))
      | (intro h; (try simp only [decide_eq_true_eq, decide_eq_false_iff_not, beq_iff_eq, beq_eq_false_iff_ne, Bool.not_eq_true', Bool.not_eq_false', bne_iff_ne, bne_eq_false_iff_eq, ne_eq, ge_iff_le, gt_iff_lt] at h))
      | (with_reducible apply J.gave')
      | ((with_reducible apply J.kept'); rotate_left; (repeat (first | (with_reducible exact Outs.nil) | ((with_reducible apply Outs.cons); (repeat (first | with_reducible exact Out.here | with_reducible apply Out.there))))))
    all_goals
      (rename_i q1 _ b q2 _
       apply J.batPack (V := V) (L := (closedL P F).take i)
       · (repeat (first | with_reducible exact Out.here | with_reducible apply Out.there))
       · (repeat (first | with_reducible exact Out.here | with_reducible apply Out.there))
       · omega
       rw [← hts]
       (apply J.againI (s := (i, q, V)) (s' := (i + 1, q2, V ++ [.slice (some ⟨q1.1, 0, none⟩) (wk p (3 - d)).length q1.2])); (focus (omega)); (focus ((try dsimp only); (refine ⟨?_, ?_⟩ <;> first | omega | (simp; omega) | (show i + 1 ≤ P.length; omega)))); (focus (((try dsimp only); repeat (first | exact sub.nil _ | (refine sub.consE rfl ?_ ?_; (first | with_reducible rfl | ((focus (congr 1; omega))) | rfl)))))); ((try dsimp only); (repeat (first | (with_reducible exact Outs.nil) | ((with_reducible apply Outs.cons); (repeat (first | with_reducible exact Out.here | with_reducible apply Out.there))))))))
  · obtain rfl : i = P.length := by omega
    have htk : (closedL P F).take P.length = closedL P F := List.take_of_length_le (by omega)
    rw [htk]
    repeat' first
      | ((with_reducible apply J.givesR (short_ _ _ _ (closedL P F))); exact rfl; exact rfl; (focus (refine RH.and (RH.srow (by (repeat (first | with_reducible exact In.here | with_reducible apply In.there))) (RH.lbs (by (repeat (first | with_reducible exact In.here | with_reducible apply In.there))) ?_)) (RH.of ⟨?_, ?_, ?_⟩) <;> omega)))
      | refine J.one ?_
      | refine J.loudS ?_
      | (refine J.loudQ ?_; intro _ _)
      | (refine J.loudB ?_; intro _)
      | (with_reducible apply J.list)
      | ((with_reducible apply J.gsplit); exact rfl; exact rfl)
      | ((with_reducible first | apply J.cond | apply JC.cond); exact rfl)
      | (intro h; exfalso; (first | (simp at h; done) | (simp at h; omega) | omega))
      | (intro h; (try simp only [decide_eq_true_eq, decide_eq_false_iff_not, beq_iff_eq, beq_eq_false_iff_ne, Bool.not_eq_true', Bool.not_eq_false', bne_iff_ne, bne_eq_false_iff_eq, ne_eq, ge_iff_le, gt_iff_lt] at h))
      | (with_reducible apply J.gave')
      | ((with_reducible apply J.kept'); rotate_left; (repeat (first | (with_reducible exact Outs.nil) | ((with_reducible apply Outs.cons); (repeat (first | with_reducible exact Out.here | with_reducible apply Out.there))))))
    all_goals
      first
      | rfl
      | (trace_state; fail)
/-- Which is the first one; -1: none. -/
def findI (p : Nat → Bool) (N : Nat) : Int := match (List.range N).find? p with | some i => (i : Int) | none => -1
theorem findI_at {p : Nat → Bool} {N i : Nat} (hi : i < N) (hp : p i = true) (h0 : ∀ j, j < i → p j = false) : findI p N = (i : Int) := by
  unfold findI
  have e : (List.range N).find? p = some i := by
    rw [List.find?_range_eq_some]
    exact ⟨hp, by simp [hi], fun j hj => by simp [h0 j hj]⟩
  rw [e]
theorem findI_none {p : Nat → Bool} {N : Nat} (h0 : ∀ j, j < N → p j = false) : findI p N = -1 := by
  unfold findI
  have e : (List.range N).find? p = none := by
    rw [List.find?_eq_none]
    intro j hj
    rw [h0 j (by simpa using hj)]
    decide
  rw [e]
theorem findI_lt {p : Nat → Bool} {N : Nat} : findI p N < N := by
  unfold findI
  split
  · rename_i i h
    have := List.mem_of_find?_eq_some h
    simp at this
    omega
  · omega
theorem findI_or {p : Nat → Bool} {N : Nat} : (findI p N = -1 ∧ ∀ j, j < N → p j = false) ∨ ∃ i, i < N ∧ findI p N = (i : Int) ∧ p i = true ∧ ∀ j, j < i → p j = false := by
  by_cases h : ∀ j, j < N → p j = false
  · exact .inl ⟨findI_none h, h⟩
  · right
    have h1 : ∃ j, j < N ∧ p j = true := by
      apply Classical.byContradiction
      intro hn
      apply h
      intro j hj
      cases hb : p j with
      | false => rfl
      | true => exact absurd ⟨j, hj, hb⟩ hn
    have key : ∀ m, (∃ j, j < m ∧ p j = true) → ∃ i, i < m ∧ p i = true ∧ ∀ j, j < i → p j = false := by
      intro m
      induction m with
      | zero => rintro ⟨j, hj, _⟩; omega
      | succ m ih =>
        rintro ⟨j, hj, hpj⟩
        by_cases hm : ∃ j, j < m ∧ p j = true
        · obtain ⟨i, h1, h2, h3⟩ := ih hm
          exact ⟨i, by omega, h2, h3⟩
        · refine ⟨m, by omega, ?_, ?_⟩
          · have : j = m := by
              apply Classical.byContradiction
              intro hne
              exact hm ⟨j, by omega, hpj⟩
            exact this ▸ hpj
          · intro k hk
            cases hb : p k with
            | false => rfl
            | true => exact absurd ⟨k, hk, hb⟩ hm
    obtain ⟨i, h2, h3, h4⟩ := key N h1
    exact ⟨i, h2, findI_at h2 h3 h4, h3, h4⟩
end Go.Proofs.Ytfcaeifpclpnoaa.Ots
