/-
  Fields that are written. No conditions.
-/
import Derived.Test.YtfcaeifpclpnoaaQWide
import Derived.Test.YtfcaeifpclpnoaaQHsum
namespace Go.Proofs.Ytfcaeifpclpnoaa.Tx
open Go Go.RowKit Eng
set_option linter.unusedVariables false
set_option maxRecDepth 100000
set_option linter.unusedSimpArgs false
open Wide
set_option maxHeartbeats 2000000
/-- A transaction's parts. -/
structure Tx where
  fr : Int
  no : Int
  ki : Int
  at_ : Int
  am : Int
  us : Int
  rt : List UInt8
  ro : Int
  se : Int
  re : Int
  to : Int
  id : List UInt8
  va : Int
  ex : Int
  fee : Int
  sg : List UInt8
def invc (us : Int) (rt : List UInt8) (ro se re to : Int) (id : List UInt8) : List Value := [.int .i64 us, str rt, .int .i64 ro, .int .i64 se, .int .i64 re, .int .i64 to, str id]
def varc (va ex : Int) : List Value := wv va ++ [.int .i64 ex]
def Tx.cells (t : Tx) : List Value := [.int .i64 t.fr, .int .i64 t.no, .int .i64 t.ki, .int .i64 t.at_] ++ wv t.am ++ invc t.us t.rt t.ro t.se t.re t.to t.id ++ varc t.va t.ex ++ wv t.fee ++ [str t.sg]
def inB (n a b : Int) : Bool := decide (a ≤ n) && decide (n ≤ b)
def invE (us : Int) (rt : List UInt8) (ro se re to : Int) (id : List UInt8) : Int :=
  if inB us 0 1 = true ∧ inB ro 2 3 = true ∧ inB se 0 1 = true ∧ inB re 0 1 = true ∧ inB to 0 7 = true ∧ rt.length = 8 ∧ inB (id.length : Int) 1 16 = true then 0 else 39
def sndE (va ex : Int) : Int := if va ≠ 0 ∧ inB ex 0 1099511627776 = true then 0 else 36
def rtE (t : Tx) : Int := if t.am = 0 then 36 else if t.ki = 1 ∧ inB t.to 0 7 = false then 39 else if t.ki = 2 ∧ inB t.ro 2 3 = false then 39 else 0
/-- May it be? -/
def chk (t : Tx) : Int :=
  if inB t.ki 1 6 = false then 12
  else if inB t.fr 0 7 = false ∨ inB t.no 0 1099511627776 = false ∨ inB t.at_ 0 1 = false then 4
  else if t.ki < 4 then rtE t
  else if invE t.us t.rt t.ro t.se t.re t.to t.id ≠ 0 then invE t.us t.rt t.ro t.se t.re t.to t.id
  else if sndE t.va t.ex ≠ 0 then sndE t.va t.ex
  else if 1024 < t.sg.length then 5
  else 0
/-- What a transaction that comes in is. -/
structure Tx.In (t : Tx) : Prop where
  am : Wd t.am
  va : Wd t.va
  rt : t.rt.length ≤ maxLen
  id : t.id.length ≤ maxLen
  sg : t.sg.length ≤ maxLen
theorem chk_fr {t : Tx} (h : chk t = 0) : 0 ≤ t.fr ∧ t.fr ≤ 7 := by
  unfold chk at h
  split at h
  · omega
  · split at h
    · omega
    · rename_i h1 h2
      simp only [not_or, Bool.not_eq_false] at h2
      have := h2.1
      unfold inB at this
      simpa using this
theorem in_ (n a b : Int) (w : World) : CSpec Try.prog 106 [.int .i64 n, .int .i64 a, .int .i64 b] [] w (Gives (.bool (inB n a b))) := by
  refine spec_of Try.func106 rfl Try.ntmps106 rfl (l0 := [(0, .int .i64 n), (1, .int .i64 a), (2, .int .i64 b)]) rfl ?_
  intro fp
  repeat' first
    | refine J.one ?_
    | refine J.loudS ?_
    | (refine J.loudQ ?_; intro _ _)
    | (refine J.loudB ?_; intro _)
    | (with_reducible apply J.list)
    | ((with_reducible apply J.gsplit); exact rfl; exact rfl)
    | ((with_reducible first | apply J.cond | apply JC.cond); exact rfl)
    | (intro h; exfalso; (first | (simp at h; done) | (simp at h; omega) | omega))
    | (intro h; (try simp only [decide_eq_true_eq, decide_eq_false_iff_not, beq_iff_eq, beq_eq_false_iff_ne, Bool.not_eq_true', Bool.not_eq_false', bne_iff_ne, bne_eq_false_iff_eq, ne_eq, ge_iff_le, gt_iff_lt] at h))
    | (with_reducible apply J.gave')
    | ((with_reducible apply J.kept'); rotate_left; (repeat (first | (with_reducible exact Outs.nil) | ((with_reducible apply Outs.cons); (repeat (first | with_reducible exact Out.here | with_reducible apply Out.there))))))
  all_goals ((first | (simp [retv, inB, *]; done) | (simp [retv, inB]; omega) | (trace_state; fail)))
theorem dealCheck (us : Int) (rt : List UInt8) (ro se re to : Int) (id : List UInt8) (w : World) : CSpec Try.prog 75 [.agg (invc us rt ro se re to id).toArray] [] w (Gives (.int .i64 (invE us rt ro se re to id))) := by
  refine spec_of Try.func75 rfl Try.ntmps75 rfl (l0 := [(0, .agg (invc us rt ro se re to id).toArray)]) rfl ?_
  intro fp
  repeat' first
    | (refine J.qv ?_; (with_reducible apply exq); focus (first
      | ((with_reducible apply Qv.lenS8); exact rfl)))
    | ((with_reducible apply J.givesW (in_ _ _ _)); exact rfl; exact rfl)
    | refine J.one ?_
    | refine J.loudS ?_
    | (refine J.loudQ ?_; intro _ _)
    | (refine J.loudB ?_; intro _)
    | (with_reducible apply J.list)
    | ((with_reducible apply J.gsplit); exact rfl; exact rfl)
    | ((with_reducible first | apply J.cond | apply JC.cond); exact rfl)
    | (intro h; exfalso; (first | (simp at h; done) | omega))
    | (intro h; (try simp only [decide_eq_true_eq, decide_eq_false_iff_not, beq_iff_eq, beq_eq_false_iff_ne, Bool.not_eq_true', Bool.not_eq_false', bne_iff_ne, bne_eq_false_iff_eq, ne_eq, ge_iff_le, gt_iff_lt] at h))
    | (with_reducible apply J.gave')
    | ((with_reducible apply J.kept'); rotate_left; (repeat (first | (with_reducible exact Outs.nil) | ((with_reducible apply Outs.cons); (repeat (first | with_reducible exact Out.here | with_reducible apply Out.there))))))
  all_goals ((first | rfl | (simp_all [retv, invE]; done) | (simp_all [retv, invE]; omega) | (trace_state; fail)))
theorem sound (va ex : Int) (hv : Wd va) (w : World) : CSpec Try.prog 76 [.agg (varc va ex).toArray] [] w (Gives (.int .i64 (sndE va ex))) := by
  refine spec_of Try.func76 rfl Try.ntmps76 rfl (l0 := [(0, .agg (varc va ex).toArray)]) rfl ?_
  intro fp
  repeat' first
    | (refine J.qv ?_; (with_reducible apply exq); focus (first
      | ((with_reducible apply Qv.buildW); exact rfl; exact rfl; (first | with_reducible assumption | (unfold Wo; omega) | (simp only [Wd, Wo] at *; omega)))
      | ((with_reducible apply Qv.buildW0); exact rfl; exact rfl)
      | ((with_reducible apply Qv.eqlA); exact rfl; exact rfl; (kernel_rfl); (refine weq _ _ (And.intro ?_ ?_) <;> (first | with_reducible assumption | exact ht.am | exact ht.va | (unfold Wd; omega))))))
    | ((with_reducible apply J.givesW (in_ _ _ _)); exact rfl; exact rfl)
    | refine J.one ?_
    | refine J.loudS ?_
    | (refine J.loudQ ?_; intro _ _)
    | (refine J.loudB ?_; intro _)
    | (with_reducible apply J.list)
    | ((with_reducible apply J.gsplit); exact rfl; exact rfl)
    | ((with_reducible first | apply J.cond | apply JC.cond); exact rfl)
    | (intro h; exfalso; (first | (simp at h; done) | omega))
    | (intro h; (try simp only [decide_eq_true_eq, decide_eq_false_iff_not, beq_iff_eq, beq_eq_false_iff_ne, Bool.not_eq_true', Bool.not_eq_false', bne_iff_ne, bne_eq_false_iff_eq, ne_eq, ge_iff_le, gt_iff_lt] at h))
    | (with_reducible apply J.gave')
    | ((with_reducible apply J.kept'); rotate_left; (repeat (first | (with_reducible exact Outs.nil) | ((with_reducible apply Outs.cons); (repeat (first | with_reducible exact Out.here | with_reducible apply Out.there))))))
  all_goals ((first | rfl | (simp_all [retv, sndE]; done) | (trace_state; fail)))
end Go.Proofs.Ytfcaeifpclpnoaa.Tx
namespace Go.Proofs.Ytfcaeifpclpnoaa.Field
open Go Go.RowKit Eng
set_option linter.unusedVariables false
set_option maxRecDepth 100000
set_option linter.unusedSimpArgs false
open Sha Iter Hash Bytes Hsum Wide Tx
set_option maxHeartbeats 1000000
abbrev ow := outw 155 5
theorem nat_of {n : Int} (h : 0 ≤ n) : ∃ k : Nat, n = (k : Int) ∧ n.toNat = k := ⟨n.toNat, by omega, rfl⟩
theorem num_le (n : Nat) : num n 6 = num n 6 := rfl
/-- A text's octets, its length ahead. -/
def tx (s : List UInt8) : List UInt8 := num s.length 2 ++ s
theorem tx_length (s : List UInt8) : (tx s).length = s.length + 2 := by simp [tx, num_length]; omega
/-- A wide number's octets. -/
def wb (n : Int) : List UInt8 := num n.toNat 32
theorem wb_length (n : Int) : (wb n).length = 32 := num_length _ _
theorem new_  (w : World) (hw : True) : CSpec Try.prog 45 [] [] w (FreshP (fun p => [ow p []])) := by
  refine spec_own0 Try.func45 rfl Try.ntmps45 rfl (l0 := []) rfl ?_
  repeat' first
    | refine J.one ?_
    | refine J.loudS ?_
    | (refine J.loudQ ?_; intro _ _)
    | (refine J.loudB ?_; intro _)
    | (with_reducible apply J.list)
    | ((with_reducible apply J.gsplit); exact rfl; exact rfl)
    | ((with_reducible first | apply J.cond | apply JC.cond); exact rfl)
    | (intro h; exfalso; (first | (simp at h; done) | (simp at h; omega)))
    | (intro h; (try simp only [decide_eq_true_eq, decide_eq_false_iff_not, beq_iff_eq, beq_eq_false_iff_ne, Bool.not_eq_true', Bool.not_eq_false', bne_iff_ne, bne_eq_false_iff_eq, ne_eq, ge_iff_le, gt_iff_lt] at h))
    | (with_reducible apply J.gave')
    | ((with_reducible apply J.kept'); rotate_left; (repeat (first | (with_reducible exact Outs.nil) | ((with_reducible apply Outs.cons); (repeat (first | with_reducible exact Out.here | with_reducible apply Out.there))))))
  all_goals ((rename_i p; refine J.nilRow 5 1 ?_; ((with_reducible apply J.shutOut (bs := [])); (repeat (first | with_reducible exact Out.here | with_reducible apply Out.there)); (repeat (first | with_reducible exact Out.here | with_reducible apply Out.there)); (focus (first | rfl | (simp; done) | (simp; omega))); (focus (first | rfl | (simp; done) | (simp; omega))); (focus (first | rfl | exact (bcs_append _ _).symm))); exact J.post ⟨p, rfl, rfl⟩ (.cons .here .nil)))
theorem put_ (p : Nat) (l : List UInt8) (ao : Option Addr) (n cap : Nat) (m : List UInt8) (w : World) (hw : n = m.length ∧ l.length + m.length ≤ 8192) : CSpec Try.prog 77 [.pointer (some ⟨p, 0, none⟩), .slice ao n cap, .int .i64 0] [ow p l, row (.slice ao n cap) 5 1 n (bcs m)] w (Turns (.tuple #[]) [ow p (l ++ m)]) := by
  obtain ⟨rfl, hm⟩ := hw
  refine spec_of Try.func77 rfl Try.ntmps77 rfl (l0 := [(0, .pointer (some ⟨p, 0, none⟩)), (1, .slice ao m.length cap), (2, .int .i64 0)]) rfl ?_
  intro fp
  refine J.openOut .here ?_
  intro q hq
  repeat' first
    | refine J.one ?_
    | refine J.loudS ?_
    | (refine J.loudQ ?_; intro _ _)
    | (refine J.loudB ?_; intro _)
    | (with_reducible apply J.list)
    | ((with_reducible apply J.gsplit); exact rfl; exact rfl)
    | ((with_reducible first | apply J.cond | apply JC.cond); exact rfl)
    | (intro h; exfalso; (first | (simp at h; done) | (simp at h; omega) | omega))
    | (intro h; (try simp only [decide_eq_true_eq, decide_eq_false_iff_not, beq_iff_eq, beq_eq_false_iff_ne, Bool.not_eq_true', Bool.not_eq_false', bne_iff_ne, bne_eq_false_iff_eq, ne_eq, ge_iff_le, gt_iff_lt] at h))
    | (with_reducible apply J.gave')
    | ((with_reducible apply J.kept'); rotate_left; (repeat (first | (with_reducible exact Outs.nil) | ((with_reducible apply Outs.cons); (repeat (first | with_reducible exact Out.here | with_reducible apply Out.there))))))
  all_goals ((((with_reducible apply J.shutOut (bs := l ++ m)); (repeat (first | with_reducible exact Out.here | with_reducible apply Out.there)); (repeat (first | with_reducible exact Out.here | with_reducible apply Out.there)); (focus (first | rfl | (simp; done) | (simp; omega))); (focus (first | rfl | (simp; done) | (simp; omega))); (focus (first | rfl | exact (bcs_append _ _).symm))); ((with_reducible apply J.turned); exact rfl; (repeat (first | (with_reducible exact Outs.nil) | ((with_reducible apply Outs.cons); (repeat (first | with_reducible exact Out.here | with_reducible apply Out.there))))))))
theorem numN (p : Nat) (l : List UInt8) (n : Nat) (w : World) (hw : n ≤ 1099511627776 ∧ l.length + 6 ≤ 8192) : CSpec Try.prog 46 [.pointer (some ⟨p, 0, none⟩), .int .i64 (n : Int)] [ow p l] w (Turns (.tuple #[]) [ow p (l ++ num n 6)]) := by
  obtain ⟨hn, hm⟩ := hw
  refine spec_of Try.func46 rfl Try.ntmps46 rfl (l0 := [(0, .pointer (some ⟨p, 0, none⟩)), (1, .int .i64 (n : Int))]) rfl ?_
  intro fp
  repeat' first
    | ((with_reducible apply J.freshR (num_ n 6)); exact rfl; exact rfl; (focus ((refine RH.of ?_; omega))); intro _ _)
    | ((with_reducible apply J.turnsP (put_ _ _ _ _ _ _)); exact rfl; exact rfl; (repeat (first | (with_reducible exact Outs.nil) | ((with_reducible apply Outs.cons); (repeat (first | with_reducible exact Out.here | with_reducible apply Out.there))))); (focus ((refine ⟨(num_length _ _).symm, ?_⟩; rw [num_length]; omega))); (try dsimp only [List.cons_append, List.nil_append]))
    | refine J.one ?_
    | refine J.loudS ?_
    | (refine J.loudQ ?_; intro _ _)
    | (refine J.loudB ?_; intro _)
    | (with_reducible apply J.list)
    | ((with_reducible apply J.gsplit); exact rfl; exact rfl)
    | ((with_reducible first | apply J.cond | apply JC.cond); exact rfl)
    | (intro h; exfalso; (first | (simp at h; done) | (simp at h; omega) | omega))
    | (intro h; (try simp only [decide_eq_true_eq, decide_eq_false_iff_not, beq_iff_eq, beq_eq_false_iff_ne, Bool.not_eq_true', Bool.not_eq_false', bne_iff_ne, bne_eq_false_iff_eq, ne_eq, ge_iff_le, gt_iff_lt] at h))
    | (with_reducible apply J.gave')
    | ((with_reducible apply J.kept'); rotate_left; (repeat (first | (with_reducible exact Outs.nil) | ((with_reducible apply Outs.cons); (repeat (first | with_reducible exact Out.here | with_reducible apply Out.there))))))
  all_goals (((with_reducible apply J.turned); exact rfl; (repeat (first | (with_reducible exact Outs.nil) | ((with_reducible apply Outs.cons); (repeat (first | with_reducible exact Out.here | with_reducible apply Out.there)))))))
theorem num_w (p : Nat) (l : List UInt8) (n : Int) (w : World) (hw : 0 ≤ n ∧ n ≤ 1099511627776 ∧ l.length + 6 ≤ 8192) : CSpec Try.prog 46 [.pointer (some ⟨p, 0, none⟩), .int .i64 n] [ow p l] w (Turns (.tuple #[]) [ow p (l ++ num n.toNat 6)]) := by
  obtain ⟨k, rfl, e⟩ := nat_of hw.1
  rw [e]
  exact numN p l k w ⟨by omega, hw.2.2⟩
theorem text_w (p : Nat) (l s : List UInt8) (w : World) (hw : s.length ≤ 1024 ∧ l.length + s.length ≤ 8190) : CSpec Try.prog 49 [.pointer (some ⟨p, 0, none⟩), str s] [ow p l] w (Turns (.tuple #[]) [ow p (l ++ tx s)]) := by
  obtain ⟨hn, hm⟩ := hw
  refine spec_of Try.func49 rfl Try.ntmps49 rfl (l0 := [(0, .pointer (some ⟨p, 0, none⟩)), (1, str s)]) rfl ?_
  intro fp
  repeat' first
    | ((with_reducible apply J.freshR (num_ s.length 2)); exact rfl; exact rfl; (focus ((refine RH.of ?_; omega))); intro _ _)
    | ((with_reducible apply J.freshR (cat_ _ _ _ [num s.length 2, s])); exact rfl; exact rfl; (focus (exact RH.and (RH.sblk (by (repeat (first | with_reducible exact In.here | with_reducible apply In.there))) (RH.lcons (RH.brow (by (repeat (first | with_reducible exact In.here | with_reducible apply In.there)))) (RH.lcons (RH.bbat (by (repeat (first | with_reducible exact In.here | with_reducible apply In.there)))) RH.lnil))) (RH.of ⟨rfl, by simp [num_length]; omega, by simp⟩))); intro _ _)
    | ((with_reducible apply J.turnsP (put_ _ _ _ _ _ _)); exact rfl; exact rfl; (repeat (first | (with_reducible exact Outs.nil) | ((with_reducible apply Outs.cons); (repeat (first | with_reducible exact Out.here | with_reducible apply Out.there))))); (focus ((refine ⟨rfl, ?_⟩; simp [num_length]; omega))); (try dsimp only [List.cons_append, List.nil_append]))
    | refine J.one ?_
    | refine J.loudS ?_
    | (refine J.loudQ ?_; intro _ _)
    | (refine J.loudB ?_; intro _)
    | (with_reducible apply J.list)
    | ((with_reducible apply J.gsplit); exact rfl; exact rfl)
    | ((with_reducible first | apply J.cond | apply JC.cond); exact rfl)
    | (intro h; exfalso; (first | (simp at h; done) | (simp at h; omega) | omega))
    | (intro h; (try simp only [decide_eq_true_eq, decide_eq_false_iff_not, beq_iff_eq, beq_eq_false_iff_ne, Bool.not_eq_true', Bool.not_eq_false', bne_iff_ne, bne_eq_false_iff_eq, ne_eq, ge_iff_le, gt_iff_lt] at h))
    | (with_reducible apply J.gave')
    | ((with_reducible apply J.kept'); rotate_left; (repeat (first | (with_reducible exact Outs.nil) | ((with_reducible apply Outs.cons); (repeat (first | with_reducible exact Out.here | with_reducible apply Out.there))))))
  all_goals
    first
    | (have e : ([num s.length 2, s] : List (List UInt8)).flatten = tx s := by simp [tx]
       rw [e]
       ((with_reducible apply J.turned); exact rfl; (repeat (first | (with_reducible exact Outs.nil) | ((with_reducible apply Outs.cons); (repeat (first | with_reducible exact Out.here | with_reducible apply Out.there)))))))
    | (trace_state; fail)
theorem wb_step (n k j : Nat) (hk : k ≤ 3) (hj : j < 8) : num (n / 256 ^ (8 * k + 8 - j)) (8 * (3 - k) + j) ++ [UInt8.ofNat (n / 256 ^ (8 * k + 7 - j))] = num (n / 256 ^ (8 * k + 8 - (j + 1))) (8 * (3 - k) + (j + 1)) := by
  rw [show 8 * (3 - k) + (j + 1) = (8 * (3 - k) + j) + 1 by omega, num, Nat.div_div_eq_div_mul, ← Nat.pow_succ]
  rw [show (8 * k + 8 - (j + 1)).succ = 8 * k + 8 - j by omega, show 8 * k + 8 - (j + 1) = 8 * k + 7 - j by omega]
def wbp (n k : Nat) : List UInt8 := num (n / 256 ^ (8 * k)) (8 * (4 - k))
theorem wb_byte (n k j : Nat) (hj : j < 8) : n / 18446744073709551616 ^ k % 18446744073709551616 / 2 ^ (56 - 8 * j) % 256 = n / 256 ^ (8 * k + 7 - j) % 256 := by
  have e1 : (18446744073709551616 : Nat) = 256 ^ 8 := by decide
  have e2 : 256 ^ (8 * k + 7 - j) = (256 ^ 8) ^ k * 2 ^ (56 - 8 * j) := by
    rw [← Nat.pow_mul, show (256 : Nat) = 2 ^ 8 from rfl, ← Nat.pow_mul, ← Nat.pow_mul, ← Nat.pow_add]
    congr 1
    omega
  rw [e2, ← Nat.div_div_eq_div_mul, ← e1]
  generalize n / 18446744073709551616 ^ k = m
  obtain ⟨i, hi⟩ : ∃ i, i ≤ 7 ∧ 56 - 8 * j = 8 * i := ⟨7 - j, by omega, by omega⟩
  rw [hi.2]
  rcases (by omega : i = 0 ∨ i = 1 ∨ i = 2 ∨ i = 3 ∨ i = 4 ∨ i = 5 ∨ i = 6 ∨ i = 7) with rfl | rfl | rfl | rfl | rfl | rfl | rfl | rfl <;> simp only [Nat.reduceMul, Nat.reducePow] <;> omega
theorem wrapu8 {n : Nat} : IntKind.u8.wrap (n : Int) = ((n % 256 : Nat) : Int) := wr8
theorem shrx {x j : Nat} (hj : j < 8) : ((x : Nat) : Int).fdiv (2 ^ (min (56 - 8 * (j : Int)).toNat IntKind.u64.bits)) = ((x / 2 ^ (56 - 8 * j) : Nat) : Int) := by
  have e : min (56 - 8 * (j : Int)).toNat IntKind.u64.bits = 56 - 8 * j := by
    show min (56 - 8 * (j : Int)).toNat 64 = _
    omega
  have e2 : ((2 : Int) ^ (56 - 8 * j)) = ((2 ^ (56 - 8 * j) : Nat) : Int) := by push_cast; rfl
  rw [e, e2, Int.fdiv_eq_ediv_of_nonneg _ (Int.natCast_nonneg _)]
  rfl
def wx (m k : Nat) : Nat := m / 18446744073709551616 ^ k % 18446744073709551616
theorem wx_get {m k : Nat} (hk : k < 4) : (wv (m : Int))[k]? = some (.int .u64 ((wx m k : Nat) : Int)) := by
  rw [wv_get hk]
  congr 2
theorem wbp_0 (m : Nat) : wbp m 0 = num m 32 := by simp [wbp]
theorem wbp_4 (m : Nat) : wbp m 4 = [] := rfl
theorem wide_ (m : Nat) (w : World) (hw : True) : CSpec Try.prog 79 [.agg (wv (m : Int)).toArray] [] w (Fresh 5 1 32 (bcs (num m 32)) []) := by
  refine spec_ownM Try.func79 rfl Try.ntmps79 rfl (l0 := [(0, .agg (wv (m : Int)).toArray)]) rfl ?_
  refine J.noPanic ?_
  repeat' first
    | ((with_reducible apply J.iterB (backward_uint64 _ _ _)); exact rfl; exact rfl; intro _)
    | refine J.one ?_
    | refine J.loudS ?_
    | (refine J.loudQ ?_; intro _ _)
    | (refine J.loudB ?_; intro _)
    | (with_reducible apply J.list)
    | ((with_reducible apply JC.draw (id := 7) [0, 0, 0, 6, 14, 30, 63, 127] (.q 0 (.p 1 (.p 2 (.p 3 (.p 4 (.x 5 (.x 6 (.x 7 .nil .none) .none) .none)))))) (by kernel_rfl) ?_ (by kernel_rfl) ?_); (repeat (with_reducible first | exact PanicFree.body | exact PanicFree.np | exact PanicFree.lvS | apply PanicFree.then_ | apply PanicFree.blk)))
    | ((with_reducible apply J.pl2); exact rfl; (first | exact Gd.none | ((with_reducible apply Gd.on); exact rfl; exact rfl)); (repeat (first | (with_reducible exact PendF.nil) | ((with_reducible apply PendF.keep); exact rfl) | ((with_reducible apply PendF.gone); exact rfl))))
    | ((with_reducible apply J.pl2_off); exact rfl; ((with_reducible apply Gd.off); exact rfl; exact rfl; exact rfl); exact rfl; (repeat (first | (with_reducible exact PendF.nil) | ((with_reducible apply PendF.keep); exact rfl) | ((with_reducible apply PendF.gone); exact rfl))))
    | ((with_reducible apply J.pl2_off_none); exact rfl; ((with_reducible apply Gd.off); exact rfl; exact rfl; exact rfl); (repeat (first | (with_reducible exact PendF.nil) | ((with_reducible apply PendF.keep); exact rfl) | ((with_reducible apply PendF.gone); exact rfl))))
    | ((with_reducible first | apply J.psplit0 | apply J.psplit1 | apply J.psplit2); exact rfl; exact rfl; exact rfl)
    | (with_reducible exact J.pl_none)
    | ((with_reducible apply J.gsplit); exact rfl; exact rfl)
    | ((with_reducible first | apply J.cond | apply JC.cond); exact rfl)
    | (intro h; exfalso; fail)
    | (intro h; (try simp only [decide_eq_true_eq, decide_eq_false_iff_not, beq_iff_eq, beq_eq_false_iff_ne, Bool.not_eq_true', Bool.not_eq_false', bne_iff_ne, bne_eq_false_iff_eq, ne_eq, ge_iff_le, gt_iff_lt] at h))
    | (with_reducible apply J.gave')
    | ((with_reducible apply J.kept'); rotate_left; (repeat (first | (with_reducible exact Outs.nil) | ((with_reducible apply Outs.cons); (repeat (first | with_reducible exact Out.here | with_reducible apply Out.there))))))
  rename_i p1 p3 Bs
  refine J.nilRow 5 1 ?_
  apply J.reR (v' := .slice none (8 * (4 - 4)) 0) (n' := 8 * (4 - 4)) (C' := bcs (wbp m 4))
  · (repeat (first | with_reducible exact Upd.here | with_reducible apply Upd.there))
  · rfl
  · rfl
  · rfl
  apply J.reB (b := p3) (C' := [.slice none (8 * (4 - 4)) 0])
  · (repeat (first | with_reducible exact Upd.here | with_reducible apply Upd.there))
  · rfl
  apply J.rangeG (ps := [9, 10]) (back_uint64 Bs p1 4 4 (fun k => ((wx m k : Nat) : Int)) (by decide)) (fun _ (_ : Option Addr × Nat) => True) (fun k q => [blk p1 (wv (m : Int)) 24, blk p3 [.slice q.1 (8 * (4 - k)) q.2] 54, row (.slice q.1 (8 * (4 - k)) q.2) 5 1 (8 * (4 - k)) (bcs (wbp m k)), blk Bs [.slice (some ⟨p1, 0, none⟩) 4 4] 122]) [falseA] (fun k => [(5, .int .u64 ((wx m k : Nat) : Int)), (3, .pointer (some ⟨p3, 0, none⟩))]) (none, 0)
  case hg => rfl
  case hps => rfl
  case hlen => exact fun k => rfl
  case hF => exact fun k q W _ s => ⟨s.cell (.tail _ (.tail _ (.tail _ (.head _)))) rfl, fun j hj hlt => s.cell (.head _) (wx_get hlt)⟩
  case hI => trivial
  case ho => ((try dsimp only); (repeat (first | (with_reducible exact Outs.nil) | ((with_reducible apply Outs.cons); (repeat (first | with_reducible exact Out.here | with_reducible apply Out.there))))))
  case hm => kernel_rfl
  case hka => rfl
  case hkb => rfl
  case hassign =>
    intro k A
    try dsimp only [putSl]
    repeat' first
      | ((with_reducible apply J.iterB (backward_uint64 _ _ _)); exact rfl; exact rfl; intro _)
      | refine J.one ?_
      | refine J.loudS ?_
      | (refine J.loudQ ?_; intro _ _)
      | (refine J.loudB ?_; intro _)
      | (with_reducible apply J.list)
      | ((with_reducible apply JC.draw (id := 7) [0, 0, 0, 6, 14, 30, 63, 127] (.q 0 (.p 1 (.p 2 (.p 3 (.p 4 (.x 5 (.x 6 (.x 7 .nil .none) .none) .none)))))) (by kernel_rfl) ?_ (by kernel_rfl) ?_); (repeat (with_reducible first | exact PanicFree.body | exact PanicFree.np | exact PanicFree.lvS | apply PanicFree.then_ | apply PanicFree.blk)))
      | ((with_reducible apply J.pl2); exact rfl; (first | exact Gd.none | ((with_reducible apply Gd.on); exact rfl; exact rfl)); (repeat (first | (with_reducible exact PendF.nil) | ((with_reducible apply PendF.keep); exact rfl) | ((with_reducible apply PendF.gone); exact rfl))))
      | ((with_reducible apply J.pl2_off); exact rfl; ((with_reducible apply Gd.off); exact rfl; exact rfl; exact rfl); exact rfl; (repeat (first | (with_reducible exact PendF.nil) | ((with_reducible apply PendF.keep); exact rfl) | ((with_reducible apply PendF.gone); exact rfl))))
      | ((with_reducible apply J.pl2_off_none); exact rfl; ((with_reducible apply Gd.off); exact rfl; exact rfl; exact rfl); (repeat (first | (with_reducible exact PendF.nil) | ((with_reducible apply PendF.keep); exact rfl) | ((with_reducible apply PendF.gone); exact rfl))))
      | ((with_reducible first | apply J.psplit0 | apply J.psplit1 | apply J.psplit2); exact rfl; exact rfl; exact rfl)
      | (with_reducible exact J.pl_none)
      | ((with_reducible apply J.gsplit); exact rfl; exact rfl)
      | ((with_reducible first | apply J.cond | apply JC.cond); exact rfl)
      | (intro h; exfalso; fail)
      | (intro h; (try simp only [decide_eq_true_eq, decide_eq_false_iff_not, beq_iff_eq, beq_eq_false_iff_ne, Bool.not_eq_true', Bool.not_eq_false', bne_iff_ne, bne_eq_false_iff_eq, ne_eq, ge_iff_le, gt_iff_lt] at h))
      | (with_reducible apply J.gave')
      | ((with_reducible apply J.kept'); rotate_left; (repeat (first | (with_reducible exact Outs.nil) | ((with_reducible apply Outs.cons); (repeat (first | with_reducible exact Out.here | with_reducible apply Out.there))))))
    all_goals ((try dsimp only); apply J.stE; ((try dsimp only); repeat (first | exact sub.nil _ | (refine sub.consE rfl ?_ ?_; (first | with_reducible rfl | (fail) | rfl)))))
  case hbody =>
    rintro ll D rc k q hk _
    try dsimp only at *
    repeat' first
      | refine J.one ?_
      | refine J.loudS ?_
      | (refine J.loudQ ?_; intro _ _)
      | (refine J.loudB ?_; intro _)
      | (with_reducible apply J.list)
      | ((with_reducible apply JC.draw (id := 7) [0, 0, 0, 6, 14, 30, 63, 127] (.q 0 (.p 1 (.p 2 (.p 3 (.p 4 (.x 5 (.x 6 (.x 7 .nil .none) .none) .none)))))) (by kernel_rfl) ?_ (by kernel_rfl) ?_); (repeat (with_reducible first | exact PanicFree.body | exact PanicFree.np | exact PanicFree.lvS | apply PanicFree.then_ | apply PanicFree.blk)))
      | ((with_reducible apply J.pl2); exact rfl; (first | exact Gd.none | ((with_reducible apply Gd.on); exact rfl; exact rfl)); (repeat (first | (with_reducible exact PendF.nil) | ((with_reducible apply PendF.keep); exact rfl) | ((with_reducible apply PendF.gone); exact rfl))))
      | ((with_reducible apply J.pl2_off); exact rfl; ((with_reducible apply Gd.off); exact rfl; exact rfl; exact rfl); exact rfl; (repeat (first | (with_reducible exact PendF.nil) | ((with_reducible apply PendF.keep); exact rfl) | ((with_reducible apply PendF.gone); exact rfl))))
      | ((with_reducible apply J.pl2_off_none); exact rfl; ((with_reducible apply Gd.off); exact rfl; exact rfl; exact rfl); (repeat (first | (with_reducible exact PendF.nil) | ((with_reducible apply PendF.keep); exact rfl) | ((with_reducible apply PendF.gone); exact rfl))))
      | ((with_reducible first | apply J.psplit0 | apply J.psplit1 | apply J.psplit2); exact rfl; exact rfl; exact rfl)
      | (with_reducible exact J.pl_none)
      | ((with_reducible apply J.gsplit); exact rfl; exact rfl)
      | ((with_reducible first | apply J.cond | apply JC.cond); exact rfl)
      | (intro h; exfalso; fail)
      | (intro h; (try simp only [decide_eq_true_eq, decide_eq_false_iff_not, beq_iff_eq, beq_eq_false_iff_ne, Bool.not_eq_true', Bool.not_eq_false', bne_iff_ne, bne_eq_false_iff_eq, ne_eq, ge_iff_le, gt_iff_lt] at h))
      | (with_reducible apply J.gave')
      | ((with_reducible apply J.kept'); rotate_left; (repeat (first | (with_reducible exact Outs.nil) | ((with_reducible apply Outs.cons); (repeat (first | with_reducible exact Out.here | with_reducible apply Out.there))))))
    have e3 : 8 * (4 - (k + 1)) = 8 * (3 - k) + 0 := by omega
    apply J.reR (v' := .slice q.1 (8 * (3 - k) + 0) q.2) (n' := 8 * (3 - k) + 0) (C' := bcs (num (m / 256 ^ (8 * k + 8 - 0)) (8 * (3 - k) + 0)))
    · (repeat (first | with_reducible exact Upd.here | with_reducible apply Upd.there))
    · rw [e3]
    · exact e3
    · (unfold wbp; rw [e3]; rfl)
    apply J.reB (b := p3) (C' := [.slice q.1 (8 * (3 - k) + 0) q.2])
    · (repeat (first | with_reducible exact Upd.here | with_reducible apply Upd.there))
    · rw [e3]
    apply JC.loopI (σ := (Nat × (Option Addr × Nat))) (I := fun s => (s.1 ≤ 8)) (L := fun s => [(5, .int .u64 ((wx m k : Nat) : Int)), (3, .pointer (some ⟨p3, 0, none⟩)), (6, .int .i64 (56 - 8 * (s.1 : Int)))]) (HH := fun s => [obj ll (.loop rc), obj D (.deferred (some [])), blk p1 (wv (m : Int)) 24, blk p3 [.slice s.2.1 (8 * (3 - k) + s.1) s.2.2] 54, row (.slice s.2.1 (8 * (3 - k) + s.1) s.2.2) 5 1 (8 * (3 - k) + s.1) (bcs (num (m / 256 ^ (8 * k + 8 - s.1)) (8 * (3 - k) + s.1))), blk Bs [.slice (some ⟨p1, 0, none⟩) 4 4] 122]) (m := fun s => 8 - s.1) (s0 := (0, q))
    · ((try dsimp only); (exact Nat.zero_le _))
    · ((try dsimp only); repeat (first | exact sub.nil _ | (refine sub.consE rfl ?_ ?_; (first | with_reducible rfl | (fail) | rfl))))
    · ((try dsimp only); (repeat (first | (with_reducible exact Outs.nil) | ((with_reducible apply Outs.cons); (repeat (first | with_reducible exact Out.here | with_reducible apply Out.there))))))
    rintro nn ⟨j, r⟩ hnn hJ hK
    try dsimp only at hnn hJ ⊢
    rcases Nat.lt_or_ge j 8 with hq | hq
    · repeat' first
        | (refine J.qv ?_; (with_reducible apply exq); focus (first
          | ((with_reducible apply Qv.shr); exact rfl; exact rfl; omega; exact shrx hq)
          | ((with_reducible apply Qv.conv); exact rfl; exact wrapu8)))
        | refine J.one ?_
        | refine J.loudS ?_
        | (refine J.loudQ ?_; intro _ _)
        | (refine J.loudB ?_; intro _)
        | (with_reducible apply J.list)
        | ((with_reducible apply JC.draw (id := 7) [0, 0, 0, 6, 14, 30, 63, 127] (.q 0 (.p 1 (.p 2 (.p 3 (.p 4 (.x 5 (.x 6 (.x 7 .nil .none) .none) .none)))))) (by kernel_rfl) ?_ (by kernel_rfl) ?_); (repeat (with_reducible first | exact PanicFree.body | exact PanicFree.np | exact PanicFree.lvS | apply PanicFree.then_ | apply PanicFree.blk)))
        | ((with_reducible apply J.pl2); exact rfl; (first | exact Gd.none | ((with_reducible apply Gd.on); exact rfl; exact rfl)); (repeat (first | (with_reducible exact PendF.nil) | ((with_reducible apply PendF.keep); exact rfl) | ((with_reducible apply PendF.gone); exact rfl))))
        | ((with_reducible apply J.pl2_off); exact rfl; ((with_reducible apply Gd.off); exact rfl; exact rfl; exact rfl); exact rfl; (repeat (first | (with_reducible exact PendF.nil) | ((with_reducible apply PendF.keep); exact rfl) | ((with_reducible apply PendF.gone); exact rfl))))
        | ((with_reducible apply J.pl2_off_none); exact rfl; ((with_reducible apply Gd.off); exact rfl; exact rfl; exact rfl); (repeat (first | (with_reducible exact PendF.nil) | ((with_reducible apply PendF.keep); exact rfl) | ((with_reducible apply PendF.gone); exact rfl))))
        | ((with_reducible first | apply J.psplit0 | apply J.psplit1 | apply J.psplit2); exact rfl; exact rfl; exact rfl)
        | (with_reducible exact J.pl_none)
        | ((with_reducible apply J.gsplit); exact rfl; exact rfl)
        | ((with_reducible first | apply J.cond | apply JC.cond); exact rfl)
        | (intro h; exfalso; (first | (simp at h; done) | (simp at h; omega) | omega))
        | (intro h; (try simp only [decide_eq_true_eq, decide_eq_false_iff_not, beq_iff_eq, beq_eq_false_iff_ne, Bool.not_eq_true', Bool.not_eq_false', bne_iff_ne, bne_eq_false_iff_eq, ne_eq, ge_iff_le, gt_iff_lt] at h))
        | (with_reducible apply J.gave')
        | ((with_reducible apply J.kept'); rotate_left; (repeat (first | (with_reducible exact Outs.nil) | ((with_reducible apply Outs.cons); (repeat (first | with_reducible exact Out.here | with_reducible apply Out.there))))))
      all_goals
        first
        | (rename_i r2 _
           apply J.reR (v' := .slice r2.1 (8 * (3 - k) + (j + 1)) r2.2) (n' := 8 * (3 - k) + (j + 1)) (C' := bcs (num (m / 256 ^ (8 * k + 8 - (j + 1))) (8 * (3 - k) + (j + 1))))
           · (repeat (first | with_reducible exact Upd.here | with_reducible apply Upd.there))
           · rfl
           · rfl
           · (rw [← wb_step m k j (by omega) hq, bcs_append]; simp only [bcs, List.map_cons, List.map_nil, u8_cell]; rw [← wb_byte m k j hq]; rfl)
           apply J.reB (b := p3) (C' := [.slice r2.1 (8 * (3 - k) + (j + 1)) r2.2])
           · (repeat (first | with_reducible exact Upd.here | with_reducible apply Upd.there))
           · rfl
           (apply JC.againI hK (s' := (j + 1, r2)); (focus (omega)); (focus ((try dsimp only); (show j + 1 ≤ 8; omega))); (focus (((try dsimp only); repeat (first | exact sub.nil _ | (refine sub.consE rfl ?_ ?_; (first | with_reducible rfl | ((focus (first | rfl | (congr 1; omega)))) | rfl)))))); ((try dsimp only); (repeat (first | (with_reducible exact Outs.nil) | ((with_reducible apply Outs.cons); (repeat (first | with_reducible exact Out.here | with_reducible apply Out.there))))))))
        | (trace_state; fail)
    · have e0 : j = 8 := by omega
      subst e0
      repeat' first
        | refine J.one ?_
        | refine J.loudS ?_
        | (refine J.loudQ ?_; intro _ _)
        | (refine J.loudB ?_; intro _)
        | (with_reducible apply J.list)
        | ((with_reducible apply JC.draw (id := 7) [0, 0, 0, 6, 14, 30, 63, 127] (.q 0 (.p 1 (.p 2 (.p 3 (.p 4 (.x 5 (.x 6 (.x 7 .nil .none) .none) .none)))))) (by kernel_rfl) ?_ (by kernel_rfl) ?_); (repeat (with_reducible first | exact PanicFree.body | exact PanicFree.np | exact PanicFree.lvS | apply PanicFree.then_ | apply PanicFree.blk)))
        | ((with_reducible apply J.pl2); exact rfl; (first | exact Gd.none | ((with_reducible apply Gd.on); exact rfl; exact rfl)); (repeat (first | (with_reducible exact PendF.nil) | ((with_reducible apply PendF.keep); exact rfl) | ((with_reducible apply PendF.gone); exact rfl))))
        | ((with_reducible apply J.pl2_off); exact rfl; ((with_reducible apply Gd.off); exact rfl; exact rfl; exact rfl); exact rfl; (repeat (first | (with_reducible exact PendF.nil) | ((with_reducible apply PendF.keep); exact rfl) | ((with_reducible apply PendF.gone); exact rfl))))
        | ((with_reducible apply J.pl2_off_none); exact rfl; ((with_reducible apply Gd.off); exact rfl; exact rfl; exact rfl); (repeat (first | (with_reducible exact PendF.nil) | ((with_reducible apply PendF.keep); exact rfl) | ((with_reducible apply PendF.gone); exact rfl))))
        | ((with_reducible first | apply J.psplit0 | apply J.psplit1 | apply J.psplit2); exact rfl; exact rfl; exact rfl)
        | (with_reducible exact J.pl_none)
        | ((with_reducible apply J.gsplit); exact rfl; exact rfl)
        | ((with_reducible first | apply J.cond | apply JC.cond); exact rfl)
        | (intro h; exfalso; (first | (simp at h; done) | (simp at h; omega) | omega))
        | (intro h; (try simp only [decide_eq_true_eq, decide_eq_false_iff_not, beq_iff_eq, beq_eq_false_iff_ne, Bool.not_eq_true', Bool.not_eq_false', bne_iff_ne, bne_eq_false_iff_eq, ne_eq, ge_iff_le, gt_iff_lt] at h))
        | (with_reducible apply J.gave')
        | ((with_reducible apply J.kept'); rotate_left; (repeat (first | (with_reducible exact Outs.nil) | ((with_reducible apply Outs.cons); (repeat (first | with_reducible exact Out.here | with_reducible apply Out.there))))))
      all_goals
        first
        | (have e4 : 8 * (3 - k) + 8 = 8 * (4 - k) := by omega
           apply J.reR (v' := .slice r.1 (8 * (4 - k)) r.2) (n' := 8 * (4 - k)) (C' := bcs (wbp m k))
           · (repeat (first | with_reducible exact Upd.here | with_reducible apply Upd.there))
           · rw [e4]
           · exact e4
           · (unfold wbp; rw [e4]; rfl)
           apply J.reB (b := p3) (C' := [.slice r.1 (8 * (4 - k)) r.2])
           · (repeat (first | with_reducible exact Upd.here | with_reducible apply Upd.there))
           · rw [e4]
           apply J.lvN r trivial
           (dsimp only [List.cons_append, List.nil_append]; (repeat (first | (with_reducible exact Outs.nil) | ((with_reducible apply Outs.cons); (repeat (first | with_reducible exact Out.here | with_reducible apply Out.there)))))))
        | (trace_state; fail)
  case hdone =>
    rintro q _ D
    try dsimp only at *
    repeat' first
      | ((with_reducible apply J.iterB (backward_uint64 _ _ _)); exact rfl; exact rfl; intro _)
      | refine J.one ?_
      | refine J.loudS ?_
      | (refine J.loudQ ?_; intro _ _)
      | (refine J.loudB ?_; intro _)
      | (with_reducible apply J.list)
      | ((with_reducible apply JC.draw (id := 7) [0, 0, 0, 6, 14, 30, 63, 127] (.q 0 (.p 1 (.p 2 (.p 3 (.p 4 (.x 5 (.x 6 (.x 7 .nil .none) .none) .none)))))) (by kernel_rfl) ?_ (by kernel_rfl) ?_); (repeat (with_reducible first | exact PanicFree.body | exact PanicFree.np | exact PanicFree.lvS | apply PanicFree.then_ | apply PanicFree.blk)))
      | ((with_reducible apply J.pl2); exact rfl; (first | exact Gd.none | ((with_reducible apply Gd.on); exact rfl; exact rfl)); (repeat (first | (with_reducible exact PendF.nil) | ((with_reducible apply PendF.keep); exact rfl) | ((with_reducible apply PendF.gone); exact rfl))))
      | ((with_reducible apply J.pl2_off); exact rfl; ((with_reducible apply Gd.off); exact rfl; exact rfl; exact rfl); exact rfl; (repeat (first | (with_reducible exact PendF.nil) | ((with_reducible apply PendF.keep); exact rfl) | ((with_reducible apply PendF.gone); exact rfl))))
      | ((with_reducible apply J.pl2_off_none); exact rfl; ((with_reducible apply Gd.off); exact rfl; exact rfl; exact rfl); (repeat (first | (with_reducible exact PendF.nil) | ((with_reducible apply PendF.keep); exact rfl) | ((with_reducible apply PendF.gone); exact rfl))))
      | ((with_reducible first | apply J.psplit0 | apply J.psplit1 | apply J.psplit2); exact rfl; exact rfl; exact rfl)
      | (with_reducible exact J.pl_none)
      | ((with_reducible apply J.gsplit); exact rfl; exact rfl)
      | ((with_reducible first | apply J.cond | apply JC.cond); exact rfl)
      | (intro h; exfalso; fail)
      | (intro h; (try simp only [decide_eq_true_eq, decide_eq_false_iff_not, beq_iff_eq, beq_eq_false_iff_ne, Bool.not_eq_true', Bool.not_eq_false', bne_iff_ne, bne_eq_false_iff_eq, ne_eq, ge_iff_le, gt_iff_lt] at h))
      | (with_reducible apply J.gave')
      | ((with_reducible apply J.kept'); rotate_left; (repeat (first | (with_reducible exact Outs.nil) | ((with_reducible apply Outs.cons); (repeat (first | with_reducible exact Out.here | with_reducible apply Out.there))))))
    all_goals
      first
      | ((with_reducible apply J.freshRow); (repeat (first | with_reducible exact Out.here | with_reducible apply Out.there)); exact rfl; exact rfl; exact congrArg bcs (wbp_0 m))
      | (trace_state; fail)
  case hstop =>
    intro D
    exact J.absurd_ (.there .here)
end Go.Proofs.Ytfcaeifpclpnoaa.Field
namespace Go.Proofs.Ytfcaeifpclpnoaa.Deal
open Go Go.RowKit Eng
set_option linter.unusedVariables false
set_option maxRecDepth 100000
set_option linter.unusedSimpArgs false
open Sha Iter Hash Bytes Hsum Wide Tx Field
set_option maxHeartbeats 1000000
theorem wide_w (p : Nat) (l : List UInt8) (n : Int) (w : World) (hw : 0 ≤ n ∧ l.length ≤ 8160) : CSpec Try.prog 48 [.pointer (some ⟨p, 0, none⟩), .agg (wv n).toArray] [ow p l] w (Turns (.tuple #[]) [ow p (l ++ wb n)]) := by
  obtain ⟨hn, hm⟩ := hw
  obtain ⟨k, rfl, e⟩ := nat_of hn
  refine spec_of Try.func48 rfl Try.ntmps48 rfl (l0 := [(0, .pointer (some ⟨p, 0, none⟩)), (1, .agg (wv (k : Int)).toArray)]) rfl ?_
  intro fp
  repeat' first
    | ((with_reducible apply J.freshR (wide_ k)); exact rfl; exact rfl; (focus (exact RH.true_)); intro _ _)
    | ((with_reducible apply J.turnsP (put_ _ _ _ _ _ _)); exact rfl; exact rfl; (repeat (first | (with_reducible exact Outs.nil) | ((with_reducible apply Outs.cons); (repeat (first | with_reducible exact Out.here | with_reducible apply Out.there))))); (focus ((refine ⟨(num_length _ _).symm, ?_⟩; rw [num_length]; omega))); (try dsimp only [List.cons_append, List.nil_append]))
    | refine J.one ?_
    | refine J.loudS ?_
    | (refine J.loudQ ?_; intro _ _)
    | (refine J.loudB ?_; intro _)
    | (with_reducible apply J.list)
    | ((with_reducible apply J.gsplit); exact rfl; exact rfl)
    | ((with_reducible first | apply J.cond | apply JC.cond); exact rfl)
    | (intro h; exfalso; (first | (simp at h; done) | (simp at h; omega) | omega))
    | (intro h; (try simp only [decide_eq_true_eq, decide_eq_false_iff_not, beq_iff_eq, beq_eq_false_iff_ne, Bool.not_eq_true', Bool.not_eq_false', bne_iff_ne, bne_eq_false_iff_eq, ne_eq, ge_iff_le, gt_iff_lt] at h))
    | (with_reducible apply J.gave')
    | ((with_reducible apply J.kept'); rotate_left; (repeat (first | (with_reducible exact Outs.nil) | ((with_reducible apply Outs.cons); (repeat (first | with_reducible exact Out.here | with_reducible apply Out.there))))))
  all_goals ((unfold wb; rw [e]; ((with_reducible apply J.turned); exact rfl; (repeat (first | (with_reducible exact Outs.nil) | ((with_reducible apply Outs.cons); (repeat (first | with_reducible exact Out.here | with_reducible apply Out.there))))))))
theorem done_ (p : Nat) (l : List UInt8) (w : World) (hw : l.length ≤ 8192) : CSpec Try.prog 52 [.pointer (some ⟨p, 0, none⟩)] [ow p l] w (DoneP 5 l.length (bcs l) []) := by
  refine spec_of Try.func52 rfl Try.ntmps52 rfl (l0 := [(0, .pointer (some ⟨p, 0, none⟩))]) rfl ?_
  intro fp
  refine J.openOut .here ?_
  intro q hq
  repeat' first
    | ((with_reducible apply J.freshR (cat_ _ _ _ [l])); exact rfl; exact rfl; (focus (exact RH.and (RH.sblk (by (repeat (first | with_reducible exact In.here | with_reducible apply In.there))) (RH.lcons (RH.brow (by (repeat (first | with_reducible exact In.here | with_reducible apply In.there)))) RH.lnil)) (RH.of ⟨rfl, by simp; omega, by simp⟩))); intro _ _)
    | refine J.one ?_
    | refine J.loudS ?_
    | (refine J.loudQ ?_; intro _ _)
    | (refine J.loudB ?_; intro _)
    | (with_reducible apply J.list)
    | ((with_reducible apply J.draw (id := 4) [0, 1, 3, 7, 0, 31] (.p 0 (.p 1 (.p 2 (.q 3 (.p 4 (.p 5 .nil)))))) (by kernel_rfl) ?_ (by kernel_rfl) ?_); (repeat (with_reducible first | exact PanicFree.body | exact PanicFree.np | exact PanicFree.lvS | apply PanicFree.then_ | apply PanicFree.blk)))
    | ((with_reducible apply J.pl2); exact rfl; (first | exact Gd.none | ((with_reducible apply Gd.on); exact rfl; exact rfl)); (repeat (first | (with_reducible exact PendF.nil) | ((with_reducible apply PendF.keep); exact rfl) | ((with_reducible apply PendF.gone); exact rfl))))
    | ((with_reducible apply J.pl2_off); exact rfl; ((with_reducible apply Gd.off); exact rfl; exact rfl; exact rfl); exact rfl; (repeat (first | (with_reducible exact PendF.nil) | ((with_reducible apply PendF.keep); exact rfl) | ((with_reducible apply PendF.gone); exact rfl))))
    | ((with_reducible apply J.pl2_off_none); exact rfl; ((with_reducible apply Gd.off); exact rfl; exact rfl; exact rfl); (repeat (first | (with_reducible exact PendF.nil) | ((with_reducible apply PendF.keep); exact rfl) | ((with_reducible apply PendF.gone); exact rfl))))
    | ((with_reducible first | apply J.psplit0 | apply J.psplit1 | apply J.psplit2); exact rfl; exact rfl; exact rfl)
    | (with_reducible exact J.pl_none)
    | ((with_reducible apply J.gsplit); exact rfl; exact rfl)
    | ((with_reducible first | apply J.cond | apply JC.cond); exact rfl)
    | (intro h; exfalso; (first | (simp at h; done) | (simp at h; omega) | omega))
    | (intro h; (try simp only [decide_eq_true_eq, decide_eq_false_iff_not, beq_iff_eq, beq_eq_false_iff_ne, Bool.not_eq_true', Bool.not_eq_false', bne_iff_ne, bne_eq_false_iff_eq, ne_eq, ge_iff_le, gt_iff_lt] at h))
    | (with_reducible apply J.gave')
    | ((with_reducible apply J.kept'); rotate_left; (repeat (first | (with_reducible exact Outs.nil) | ((with_reducible apply Outs.cons); (repeat (first | with_reducible exact Out.here | with_reducible apply Out.there))))))
  all_goals
    first
    | ((with_reducible apply J.done'); (repeat (first | (with_reducible exact Outs.nil) | ((with_reducible apply Outs.cons); (repeat (first | with_reducible exact Out.here | with_reducible apply Out.there))))); exact rfl; (focus (simp; done)); (focus (first | assumption | (simp; done))); omega)
    | (trace_state; fail)
def invB (us : Int) (rt : List UInt8) (ro se re to : Int) (id : List UInt8) : List UInt8 := tx [105, 110, 118] ++ num us.toNat 6 ++ tx rt ++ num ro.toNat 6 ++ num se.toNat 6 ++ num re.toNat 6 ++ num to.toNat 6 ++ tx id
theorem inv_ok {us ro se re to : Int} {rt id : List UInt8} (h : invE us rt ro se re to id = 0) : 0 ≤ us ∧ us ≤ 1 ∧ 2 ≤ ro ∧ ro ≤ 3 ∧ 0 ≤ se ∧ se ≤ 1 ∧ 0 ≤ re ∧ re ≤ 1 ∧ 0 ≤ to ∧ to ≤ 7 ∧ rt.length = 8 ∧ 1 ≤ id.length ∧ id.length ≤ 16 := by
  unfold invE inB at h
  split at h
  · rename_i h1
    simp at h1
    omega
  · omega
def varB (va ex : Int) : List UInt8 := wb va ++ num ex.toNat 6
theorem var_ok {va ex : Int} (h : sndE va ex = 0) : va ≠ 0 ∧ 0 ≤ ex ∧ ex ≤ 1099511627776 := by
  unfold sndE inB at h
  split at h
  · rename_i h1
    simp at h1
    omega
  · omega
theorem invB_length {us ro se re to : Int} {rt id : List UInt8} : (invB us rt ro se re to id).length = 39 + rt.length + id.length := by
  unfold invB
  simp only [List.length_append, tx_length, num_length, List.length_cons, List.length_nil]
  omega
theorem varB_length {va ex : Int} : (varB va ex).length = 38 := by simp [varB, wb_length, num_length]
/-- A transfer's key. -/
def keyF (us : Int) (rt : List UInt8) (ro se re to : Int) (id : List UInt8) : List UInt8 := if invE us rt ro se re to id = 0 then sha (invB us rt ro se re to id) else []
def digB (k : List UInt8) (va ex : Int) : List UInt8 := tx k ++ varB va ex
def digF (us : Int) (rt : List UInt8) (ro se re to : Int) (id : List UInt8) (va ex : Int) : List UInt8 := if invE us rt ro se re to id = 0 ∧ sndE va ex = 0 then sha (digB (keyF us rt ro se re to id) va ex) else []
def payB (act : Int) (k : List UInt8) (fee : Int) : List UInt8 := tx [97, 99, 116] ++ num act.toNat 6 ++ tx k ++ wb fee
def payF (act : Int) (k : List UInt8) (fee : Int) : List UInt8 := if inB act 1 2 = true ∧ k.length = 32 then payB act k fee else []
theorem keyF_length (us : Int) (rt : List UInt8) (ro se re to : Int) (id : List UInt8) : (keyF us rt ro se re to id).length = if invE us rt ro se re to id = 0 then 32 else 0 := by
  unfold keyF
  split
  · exact sha_length _
  · rfl
theorem put_inv (p : Nat) (l : List UInt8) (us : Int) (rt : List UInt8) (ro se re to : Int) (id : List UInt8) (w : World) (hw : invE us rt ro se re to id = 0 ∧ l.length ≤ 4000) : CSpec Try.prog 50 [.pointer (some ⟨p, 0, none⟩), .agg (invc us rt ro se re to id).toArray] [ow p l] w (Turns (.tuple #[]) [ow p (l ++ invB us rt ro se re to id)]) := by
  obtain ⟨hi, hm⟩ := hw
  obtain ⟨u0, u1, r0, r1, s0, s1, e0, e1, t0, t1, rl, i0, i1⟩ := inv_ok hi
  refine spec_of Try.func50 rfl Try.ntmps50 rfl (l0 := [(0, .pointer (some ⟨p, 0, none⟩)), (1, .agg (invc us rt ro se re to id).toArray)]) rfl ?_
  intro fp
  repeat' first
    | (with_reducible refine J.rounds 5 ?_)
    | (with_reducible apply J.round)
    | ((with_reducible apply J.turnsP (text_w _ _ _)); exact rfl; exact rfl; (repeat (first | (with_reducible exact Outs.nil) | ((with_reducible apply Outs.cons); (repeat (first | with_reducible exact Out.here | with_reducible apply Out.there))))); (focus ((refine ⟨?_, ?_⟩ <;> first | (simp; done) | omega | (simp only [List.length_append, tx_length, num_length, wb_length, List.length_cons, List.length_nil]; omega)))); (try dsimp only [List.cons_append, List.nil_append]))
    | ((with_reducible apply J.turnsP (num_w _ _ _)); exact rfl; exact rfl; (repeat (first | (with_reducible exact Outs.nil) | ((with_reducible apply Outs.cons); (repeat (first | with_reducible exact Out.here | with_reducible apply Out.there))))); (focus ((refine ⟨?_, ?_, ?_⟩ <;> first | omega | (simp only [List.length_append, tx_length, num_length, wb_length, List.length_cons, List.length_nil]; omega)))); (try dsimp only [List.cons_append, List.nil_append]))
    | refine J.one ?_
    | refine J.loudS ?_
    | (refine J.loudQ ?_; intro _ _)
    | (refine J.loudB ?_; intro _)
    | (with_reducible apply J.list)
    | ((with_reducible apply J.gsplit); exact rfl; exact rfl)
    | ((with_reducible first | apply J.cond | apply JC.cond); exact rfl)
    | (intro h; exfalso; (first | (revert h; decide) | (simp at h; done)))
    | (intro h; (try simp only [decide_eq_true_eq, decide_eq_false_iff_not, beq_iff_eq, beq_eq_false_iff_ne, Bool.not_eq_true', Bool.not_eq_false', bne_iff_ne, bne_eq_false_iff_eq, ne_eq, ge_iff_le, gt_iff_lt] at h))
    | (with_reducible apply J.gave')
    | ((with_reducible apply J.kept'); rotate_left; (repeat (first | (with_reducible exact Outs.nil) | ((with_reducible apply Outs.cons); (repeat (first | with_reducible exact Out.here | with_reducible apply Out.there))))))
  all_goals
    first
    | (apply J.reOut (bs' := l ++ invB us rt ro se re to id)
       · (repeat (first | with_reducible exact Upd.here | with_reducible apply Upd.there))
       · unfold invB; simp only [List.append_assoc]
       ((with_reducible apply J.turned); exact rfl; (repeat (first | (with_reducible exact Outs.nil) | ((with_reducible apply Outs.cons); (repeat (first | with_reducible exact Out.here | with_reducible apply Out.there)))))))
    | (trace_state; fail)
theorem put_var (p : Nat) (l : List UInt8) (va ex : Int) (w : World) (hw : 0 ≤ va ∧ 0 ≤ ex ∧ ex ≤ 1099511627776 ∧ l.length ≤ 4000) : CSpec Try.prog 51 [.pointer (some ⟨p, 0, none⟩), .agg (varc va ex).toArray] [ow p l] w (Turns (.tuple #[]) [ow p (l ++ varB va ex)]) := by
  obtain ⟨hv, h0, h1, hm⟩ := hw
  refine spec_of Try.func51 rfl Try.ntmps51 rfl (l0 := [(0, .pointer (some ⟨p, 0, none⟩)), (1, .agg (varc va ex).toArray)]) rfl ?_
  intro fp
  repeat' first
    | ((with_reducible apply J.turnsP (wide_w _ _ _)); exact rfl; exact rfl; (repeat (first | (with_reducible exact Outs.nil) | ((with_reducible apply Outs.cons); (repeat (first | with_reducible exact Out.here | with_reducible apply Out.there))))); (focus ((refine ⟨?_, ?_⟩ <;> first | omega | (simp only [List.length_append, tx_length, num_length, wb_length, List.length_cons, List.length_nil]; omega)))); (try dsimp only [List.cons_append, List.nil_append]))
    | ((with_reducible apply J.turnsP (num_w _ _ _)); exact rfl; exact rfl; (repeat (first | (with_reducible exact Outs.nil) | ((with_reducible apply Outs.cons); (repeat (first | with_reducible exact Out.here | with_reducible apply Out.there))))); (focus ((refine ⟨?_, ?_, ?_⟩ <;> first | omega | (simp only [List.length_append, tx_length, num_length, wb_length, List.length_cons, List.length_nil]; omega)))); (try dsimp only [List.cons_append, List.nil_append]))
    | refine J.one ?_
    | refine J.loudS ?_
    | (refine J.loudQ ?_; intro _ _)
    | (refine J.loudB ?_; intro _)
    | (with_reducible apply J.list)
    | ((with_reducible apply J.gsplit); exact rfl; exact rfl)
    | ((with_reducible first | apply J.cond | apply JC.cond); exact rfl)
    | (intro h; exfalso; (first | (simp at h; done) | (simp at h; omega) | omega))
    | (intro h; (try simp only [decide_eq_true_eq, decide_eq_false_iff_not, beq_iff_eq, beq_eq_false_iff_ne, Bool.not_eq_true', Bool.not_eq_false', bne_iff_ne, bne_eq_false_iff_eq, ne_eq, ge_iff_le, gt_iff_lt] at h))
    | (with_reducible apply J.gave')
    | ((with_reducible apply J.kept'); rotate_left; (repeat (first | (with_reducible exact Outs.nil) | ((with_reducible apply Outs.cons); (repeat (first | with_reducible exact Out.here | with_reducible apply Out.there))))))
  all_goals
    first
    | (apply J.reOut (bs' := l ++ varB va ex)
       · (repeat (first | with_reducible exact Upd.here | with_reducible apply Upd.there))
       · unfold varB; simp only [List.append_assoc]
       ((with_reducible apply J.turned); exact rfl; (repeat (first | (with_reducible exact Outs.nil) | ((with_reducible apply Outs.cons); (repeat (first | with_reducible exact Out.here | with_reducible apply Out.there)))))))
    | (trace_state; fail)
theorem key_ (us : Int) (rt : List UInt8) (ro se re to : Int) (id : List UInt8) (w : World) (hw : True) : CSpec Try.prog 73 [.agg (invc us rt ro se re to id).toArray] [] w (Gives (str (keyF us rt ro se re to id))) := by
  have hok := fun hi : invE us rt ro se re to id = 0 => inv_ok hi
  refine spec_own0 Try.func73 rfl Try.ntmps73 rfl (l0 := [(0, .agg (invc us rt ro se re to id).toArray)]) rfl ?_
  repeat' first
    | ((with_reducible apply J.givesW (dealCheck _ _ _ _ _ _ _)); exact rfl; exact rfl)
    | ((with_reducible apply J.newP new_); exact rfl; exact rfl; trivial; intro _; (try dsimp only [List.cons_append, List.nil_append]))
    | ((with_reducible apply J.turnsP (put_inv _ _ _ _ _ _ _ _ _)); exact rfl; exact rfl; (repeat (first | (with_reducible exact Outs.nil) | ((with_reducible apply Outs.cons); (repeat (first | with_reducible exact Out.here | with_reducible apply Out.there))))); (focus (exact ⟨by assumption, by simp⟩)); (try dsimp only [List.cons_append, List.nil_append]))
    | ((with_reducible apply J.doneP (done_ _ _)); exact rfl; exact rfl; (repeat (first | (with_reducible exact Outs.nil) | ((with_reducible apply Outs.cons); (repeat (first | with_reducible exact Out.here | with_reducible apply Out.there))))); (focus ((simp [invB_length]; omega))); intro _ _; (try dsimp only [List.cons_append, List.nil_append]))
    | ((with_reducible apply J.givesR (text_ _ _ _ [invB us rt ro se re to id])); exact rfl; exact rfl; (focus (exact RH.and (RH.sblk (by (repeat (first | with_reducible exact In.here | with_reducible apply In.there))) (RH.lcons (RH.brow (by (repeat (first | with_reducible exact In.here | with_reducible apply In.there)))) RH.lnil)) (RH.of ⟨rfl, by simp [invB_length]; try omega, by simp⟩))))
    | refine J.one ?_
    | refine J.loudS ?_
    | (refine J.loudQ ?_; intro _ _)
    | (refine J.loudB ?_; intro _)
    | (with_reducible apply J.list)
    | ((with_reducible apply J.gsplit); exact rfl; exact rfl)
    | ((with_reducible first | apply J.cond | apply JC.cond); exact rfl)
    | (intro h; exfalso; fail)
    | (intro h; (try simp only [decide_eq_true_eq, decide_eq_false_iff_not, beq_iff_eq, beq_eq_false_iff_ne, Bool.not_eq_true', Bool.not_eq_false', bne_iff_ne, bne_eq_false_iff_eq, ne_eq, ge_iff_le, gt_iff_lt] at h))
    | (with_reducible apply J.gave')
    | ((with_reducible apply J.kept'); rotate_left; (repeat (first | (with_reducible exact Outs.nil) | ((with_reducible apply Outs.cons); (repeat (first | with_reducible exact Out.here | with_reducible apply Out.there))))))
  all_goals
    first
    | (simp only [retv]; unfold keyF; rw [if_neg (by assumption)]; done)
    | (simp only [retv]; unfold keyF; rw [if_pos (by assumption)]; simp; done)
    | (trace_state; fail)
theorem payB_length {act : Int} {k : List UInt8} {fee : Int} : (payB act k fee).length = 45 + k.length := by
  unfold payB
  simp only [List.length_append, tx_length, num_length, wb_length, List.length_cons, List.length_nil]
  omega
theorem in_iff {n a b : Int} (h : inB n a b = true) : a ≤ n ∧ n ≤ b := by unfold inB at h; simp at h; omega
theorem payload_ (act : Int) (k : List UInt8) (fee : Int) (w : World) (hw : 0 ≤ fee ∧ k.length ≤ 140737488351232) : CSpec Try.prog 72 [.int .i64 act, str k, .agg (wv fee).toArray] [] w (Fresh 5 1 (payF act k fee).length (bcs (payF act k fee)) []) := by
  obtain ⟨hf, hkl⟩ := hw
  refine spec_own0 Try.func72 rfl Try.ntmps72 rfl (l0 := [(0, .int .i64 act), (1, str k), (2, .agg (wv fee).toArray)]) rfl ?_
  repeat' first
    | ((with_reducible apply J.givesW (in_ _ _ _)); exact rfl; exact rfl)
    | ((with_reducible apply J.newP new_); exact rfl; exact rfl; trivial; intro _; (try dsimp only [List.cons_append, List.nil_append]))
    | ((with_reducible apply J.turnsP (text_w _ _ _)); exact rfl; exact rfl; (repeat (first | (with_reducible exact Outs.nil) | ((with_reducible apply Outs.cons); (repeat (first | with_reducible exact Out.here | with_reducible apply Out.there))))); (focus ((refine ⟨?_, ?_⟩ <;> first | omega | (simp; done) | (simp [tx_length, num_length]; done) | (simp [tx_length, num_length]; omega)))); (try dsimp only [List.cons_append, List.nil_append]))
    | ((with_reducible apply J.turnsP (num_w _ _ _)); exact rfl; exact rfl; (repeat (first | (with_reducible exact Outs.nil) | ((with_reducible apply Outs.cons); (repeat (first | with_reducible exact Out.here | with_reducible apply Out.there))))); (focus ((have hin := in_iff (by assumption); refine ⟨?_, ?_, ?_⟩ <;> first | omega | (simp [tx_length]; done) | (simp [tx_length]; omega)))); (try dsimp only [List.cons_append, List.nil_append]))
    | ((with_reducible apply J.turnsP (wide_w _ _ _)); exact rfl; exact rfl; (repeat (first | (with_reducible exact Outs.nil) | ((with_reducible apply Outs.cons); (repeat (first | with_reducible exact Out.here | with_reducible apply Out.there))))); (focus ((refine ⟨?_, ?_⟩ <;> first | omega | (simp [tx_length, num_length]; done) | (simp [tx_length, num_length]; omega)))); (try dsimp only [List.cons_append, List.nil_append]))
    | ((with_reducible apply J.doneP (done_ _ _)); exact rfl; exact rfl; (repeat (first | (with_reducible exact Outs.nil) | ((with_reducible apply Outs.cons); (repeat (first | with_reducible exact Out.here | with_reducible apply Out.there))))); (focus ((simp [tx_length, num_length, wb_length]; try omega))); intro _ _; (try dsimp only [List.cons_append, List.nil_append]))
    | refine J.one ?_
    | refine J.loudS ?_
    | (refine J.loudQ ?_; intro _ _)
    | (refine J.loudB ?_; intro _)
    | (with_reducible apply J.list)
    | ((with_reducible apply J.gsplit); exact rfl; exact rfl)
    | ((with_reducible first | apply J.cond | apply JC.cond); exact rfl)
    | (intro h; exfalso; fail)
    | (intro h; (try simp only [decide_eq_true_eq, decide_eq_false_iff_not, beq_iff_eq, beq_eq_false_iff_ne, Bool.not_eq_true', Bool.not_eq_false', bne_iff_ne, bne_eq_false_iff_eq, ne_eq, ge_iff_le, gt_iff_lt] at h))
    | (with_reducible apply J.gave')
    | ((with_reducible apply J.kept'); rotate_left; (repeat (first | (with_reducible exact Outs.nil) | ((with_reducible apply Outs.cons); (repeat (first | with_reducible exact Out.here | with_reducible apply Out.there))))))
  all_goals
    first
    | (have e : payF act k fee = [] := by unfold payF; exact if_neg (by intro hc; simp_all)
       rw [e]
       refine J.nilRow 5 1 ?_
       (with_reducible apply J.freshRow)
       (repeat (first | with_reducible exact Out.here | with_reducible apply Out.there))
       all_goals rfl)
    | (have e : payF act k fee = payB act k fee := by unfold payF; exact if_pos ⟨by assumption, by omega⟩
       rw [e]
       (with_reducible apply J.freshRow)
       (repeat (first | with_reducible exact Out.here | with_reducible apply Out.there))
       exact rfl
       exact rfl
       rfl)
    | (trace_state; fail)
end Go.Proofs.Ytfcaeifpclpnoaa.Deal
