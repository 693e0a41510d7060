/-
  The product by plain digits: narrowsref01.Mul. No conditions.
-/
import Derived.Test.YtnbckkpflmpnlaaTy
import Derived.Test.YtnbckkpflmpnlaaFl
import Derived.Test.YtnbckkpflmpnlaaWMul
import Derived.Test.YtnbckkpflmpnlaaRef
namespace Go.Proofs.Ytnbckkpflmpnlaa.MulR
open Go Go.RowKit Eng
set_option linter.unusedVariables false
set_option maxRecDepth 100000
set_option linter.unusedSimpArgs false
open Wide Ref WMul
set_option maxHeartbeats 2000000
theorem dgv_at (n : Int) {k i off : Nat} (he : off = i) (h : i < k) : (dgv n k)[off]? = some (.int .i64 (sh n i % 65536)) := by rw [he]; exact dgv_get n h
theorem sh_low {N d : Int} {p : Nat} : ∀ j, j ≤ p → sh (N + d * (65536 ^ p : Nat)) j = sh N j + d * (65536 ^ (p - j) : Nat)
  | 0, _ => rfl
  | j + 1, h => by
    show sh _ j / 65536 = sh N j / 65536 + _
    rw [sh_low j (by omega)]
    have e : p - j = (p - (j + 1)) + 1 := by omega
    rw [e, Nat.pow_succ, Int.natCast_mul, ← Int.mul_assoc]
    exact Int.add_mul_ediv_right _ _ (by decide)
theorem sh_set {N e : Int} {p : Nat} (h : 0 ≤ e ∧ e < 65536) : ∀ j, sh (N + (e - sh N p % 65536) * (65536 ^ p : Nat)) (p + 1 + j) = sh N (p + 1 + j)
  | 0 => by
    show sh _ p / 65536 = sh N p / 65536
    rw [sh_low p (Nat.le_refl _), Nat.sub_self, Nat.pow_zero]
    omega
  | j + 1 => by
    show sh _ (p + 1 + j) / 65536 = sh N (p + 1 + j) / 65536
    rw [sh_set h j]
theorem dgv_tab (n : Int) : ∀ k, dgv n k = tab (fun j => .int .i64 (sh n j % 65536)) k
  | 0 => rfl
  | k + 1 => by rw [dgv, tab, dgv_tab n k]
theorem dgv_put {N e : Int} {p k off : Nat} (he : off = p) (hp : p < k) (h : 0 ≤ e ∧ e < 65536) : splice (dgv N k) off [.int .i64 e] = dgv (N + (e - sh N p % 65536) * (65536 ^ p : Nat)) k := by
  rw [dgv_tab, dgv_tab, tab_put he hp]
  refine tab_same fun j hj => ?_
  split
  · rename_i ej
    subst ej
    rw [sh_low j (Nat.le_refl _), Nat.sub_self, Nat.pow_zero]
    congr 1; omega
  · rename_i ej
    rcases Nat.lt_or_ge j p with h1 | h1
    · rw [sh_low j (by omega)]
      have e2 : p - j = (p - j - 1) + 1 := by omega
      rw [e2, Nat.pow_succ, Int.natCast_mul, ← Int.mul_assoc]
      congr 1
      have e3 : ((65536 : Nat) : Int) = 65536 := rfl
      rw [e3, Int.add_mul_emod_self_right]
    · obtain ⟨i, rfl⟩ : ∃ i, j = p + 1 + i := ⟨j - p - 1, by omega⟩
      rw [sh_set h i]
theorem lo_s (n : Int) (k : Nat) : lo n (k + 1) = lo n k + (sh n k % 65536) * (65536 ^ k : Nat) := by
  unfold lo
  rw [sh_eq]
  have hp : (0 : Int) < (65536 ^ k : Nat) := by
    have := Nat.two_pow_pos 1
    exact Int.natCast_pos.2 (Nat.pow_pos (by decide))
  rw [Nat.pow_succ, Int.natCast_mul]
  generalize ((65536 ^ k : Nat) : Int) = q at *
  have e3 : ((65536 : Nat) : Int) = 65536 := rfl
  rw [e3]
  have h1 := Int.mul_ediv_add_emod n q
  have h2 := Int.emod_nonneg n (show q ≠ 0 by omega)
  have h3 := Int.emod_lt_of_pos n hp
  generalize n % q = r at *
  generalize n / q = t at *
  subst h1
  have h4 : t = 65536 * (t / 65536) + t % 65536 := by omega
  have h5 : 0 ≤ t % 65536 ∧ t % 65536 ≤ 65535 := by omega
  generalize t % 65536 = u at *
  generalize t / 65536 = v at *
  subst h4
  have h6 : q * u ≤ q * 65535 := Int.mul_le_mul_of_nonneg_left h5.2 (by omega)
  have h7 : 0 ≤ q * u := Int.mul_nonneg (by omega) h5.1
  have h8 : q * (65536 * v + u) + r = (r + u * q) + (q * 65536) * v := by grind
  rw [h8, Int.add_mul_emod_self_left]
  have h9 : u * q = q * u := Int.mul_comm _ _
  exact Int.emod_eq_of_lt (by omega) (by omega)
theorem lo_nonneg (n : Int) (k : Nat) : 0 ≤ lo n k ∧ lo n k < (65536 ^ k : Nat) := by
  have hp : (0 : Int) < (65536 ^ k : Nat) := Int.natCast_pos.2 (Nat.pow_pos (by decide))
  exact ⟨Int.emod_nonneg _ (by omega), Int.emod_lt_of_pos _ hp⟩
theorem dig_bd (n : Int) (k : Nat) : 0 ≤ sh n k % 65536 ∧ sh n k % 65536 ≤ 65535 := by omega
theorem mulD {u v : Int} (hu : 0 ≤ u ∧ u ≤ 65535) (hv : 0 ≤ v ∧ v ≤ 65535) : 0 ≤ u * v ∧ u * v ≤ 4294836225 :=
  ⟨Int.mul_nonneg hu.1 hv.1, Int.le_trans (Int.mul_le_mul hu.2 hv.2 hv.1 (by omega)) (by decide)⟩
/-- One step of the inner round. -/
theorem inner_step {N cc x d L Q : Int} {i k : Nat} (h : N + cc * (65536 ^ (i + k) : Nat) = L + (x * Q) * (65536 ^ i : Nat)) (hc : 0 ≤ cc ∧ cc ≤ 65535) (hx : 0 ≤ x ∧ x ≤ 65535) (hd : 0 ≤ d ∧ d ≤ 65535) :
    (N + ((cc + sh N (i + k) % 65536 + x * d) % 65536 - sh N (i + k) % 65536) * (65536 ^ (i + k) : Nat)) + (cc + sh N (i + k) % 65536 + x * d) / 65536 * (65536 ^ (i + (k + 1)) : Nat) = L + (x * (Q + d * (65536 ^ k : Nat))) * (65536 ^ i : Nat) ∧
    0 ≤ (cc + sh N (i + k) % 65536 + x * d) / 65536 ∧ (cc + sh N (i + k) % 65536 + x * d) / 65536 ≤ 65535 := by
  have hp := mulD hx hd
  have hs := dig_bd N (i + k)
  refine ⟨?_, by omega, by omega⟩
  have e1 : ((65536 ^ (i + (k + 1)) : Nat) : Int) = 65536 * ((65536 ^ (i + k) : Nat) : Int) := by
    rw [show i + (k + 1) = i + k + 1 by omega, Nat.pow_succ, Int.natCast_mul]; exact Int.mul_comm _ _
  have e2 : ((65536 ^ (i + k) : Nat) : Int) = ((65536 ^ i : Nat) : Int) * ((65536 ^ k : Nat) : Int) := by rw [Nat.pow_add, Int.natCast_mul]
  rw [e1]
  have e4 : (cc + sh N (i + k) % 65536 + x * d) % 65536 = cc + sh N (i + k) % 65536 + x * d - 65536 * ((cc + sh N (i + k) % 65536 + x * d) / 65536) := by omega
  rw [e4]
  generalize (cc + sh N (i + k) % 65536 + x * d) / 65536 = q at *
  generalize sh N (i + k) % 65536 = s at *
  rw [e2] at h ⊢
  generalize ((65536 ^ i : Nat) : Int) = bi at *
  generalize ((65536 ^ k : Nat) : Int) = bk at *
  grind
/-- The inner round's end. -/
theorem inner_end {N cc a n : Int} {i : Nat} (hn : 0 ≤ n ∧ n < 18446744073709551616) (h : N + cc * (65536 ^ (i + 5) : Nat) = lo a i * n + (sh a i % 65536 * lo n 5) * (65536 ^ i : Nat)) (hN : 0 ≤ N) (hc : 0 ≤ cc) : cc = 0 ∧ N = lo a (i + 1) * n := by
  have e1 : lo n 5 = n := by unfold lo; omega
  have e2 := lo_s a i
  have e3 := lo_nonneg a (i + 1)
  rw [e1] at h
  have h2 : N + cc * (65536 ^ (i + 5) : Nat) = lo a (i + 1) * n := by
    rw [h, e2]
    generalize ((65536 ^ i : Nat) : Int) = bi
    grind
  have e4 : ((65536 ^ (i + 5) : Nat) : Int) = ((65536 ^ (i + 1) : Nat) : Int) * 18446744073709551616 := by
    rw [show i + 5 = (i + 1) + 4 by omega, Nat.pow_add, Int.natCast_mul]; rfl
  have hb : (0 : Int) < (65536 ^ (i + 1) : Nat) := Int.natCast_pos.2 (Nat.pow_pos (by decide))
  have h3 : lo a (i + 1) * n ≤ (((65536 ^ (i + 1) : Nat) : Int) - 1) * 18446744073709551615 := Int.mul_le_mul (by omega) (by omega) hn.1 (by omega)
  rw [e4] at h2
  generalize ((65536 ^ (i + 1) : Nat) : Int) = b at *
  have hc0 : cc = 0 := by
    rcases Int.lt_or_le 0 cc with hp | hp
    · exfalso
      have h4 : 1 * (b * 18446744073709551616) ≤ cc * (b * 18446744073709551616) := Int.mul_le_mul_of_nonneg_right (by omega) (by omega)
      omega
    · omega
  subst hc0
  exact ⟨rfl, by rw [← h2]; omega⟩
theorem set_nonneg {N e : Int} {p : Nat} (hN : 0 ≤ N) (he : 0 ≤ e) : 0 ≤ N + (e - sh N p % 65536) * (65536 ^ p : Nat) := by
  have hp : (0 : Int) < (65536 ^ p : Nat) := Int.natCast_pos.2 (Nat.pow_pos (by decide))
  have h1 := Int.mul_ediv_add_emod N (65536 ^ p : Nat)
  have h2 := Int.emod_nonneg N (show ((65536 ^ p : Nat) : Int) ≠ 0 by omega)
  rw [sh_eq]
  have h3 : 0 ≤ N / (65536 ^ p : Nat) := Int.ediv_nonneg hN (by omega)
  generalize ((65536 ^ p : Nat) : Int) = q at *
  generalize N % q = r at *
  have h4 : 0 ≤ q * (e + (N / q - N / q % 65536)) := Int.mul_nonneg (by omega) (by omega)
  have h5 : N + (e - N / q % 65536) * q = q * (e + (N / q - N / q % 65536)) + r := by grind
  omega
theorem made_b (N : Int) (b : Nat) (h : 0 ≤ N ∧ sh N 21 = 0) (w : World) : CSpec Try.prog 82 [.slice (some ⟨b, 0, none⟩) 21 21] [Eng.blk b (dgv N 21) 3] w (Keeps (.tuple [.agg (wv (if N < 115792089237316195423570985008687907853269984665640564039457584007913129639936 then N else 0)).toArray, .bool (decide (N < 115792089237316195423570985008687907853269984665640564039457584007913129639936))].toArray) [Eng.blk b (dgv N 21) 3]) :=
  CSpec.blked (by rw [dgv_length]) (by decide) (made N 21 b 21 ⟨h.1, by decide, by decide, h.2⟩ w)
theorem end_hp {a n : Int} {i : Nat} (ha : Wd a) (hn : Wo n) (h : i ≤ 16) (h2 : ¬ (i : Int) < 16) : 0 ≤ lo a i * n ∧ sh (lo a i * n) 21 = 0 := by
  obtain rfl : i = 16 := by omega
  unfold Wo at hn
  have h1 := lo_nonneg a 16
  have h3 : lo a 16 * n ≤ (((65536 ^ 16 : Nat) : Int) - 1) * 18446744073709551615 := Int.mul_le_mul (by omega) (by omega) hn.1 (by decide)
  have h4 : 0 ≤ lo a 16 * n := Int.mul_nonneg h1.1 hn.1
  refine ⟨h4, ?_⟩
  rw [sh_eq]
  exact Int.ediv_eq_zero_of_lt h4 (Int.lt_of_le_of_lt h3 (by decide))
theorem mul_r (a n : Int) (h : Wd a ∧ Wo n) (w : World) : CSpec Try.prog 59 [.agg (wv a).toArray, .int .u64 n] [] w (Gives (.tuple [.agg (wv (wmul a n)).toArray, .bool (decide (a * n < 115792089237316195423570985008687907853269984665640564039457584007913129639936))].toArray)) := by
  obtain ⟨ha, hn⟩ := h
  have hL : ∀ i, 0 ≤ lo a i * n := fun i => Int.mul_nonneg (lo_nonneg a i).1 hn.1
  refine spec_of Try.func59 rfl Try.ntmps59 rfl (l0 := [(0, .agg (wv a).toArray), (1, .int .u64 n)]) rfl ?_
  intro fp
  repeat' first
    | (with_reducible apply J.seq)
    | (with_reducible apply J.region_lit)
    | (with_reducible apply J.ops_nil)
    | (with_reducible apply J.app_cons)
    | (with_reducible apply J.app_nil)
    | (with_reducible apply J.then_)
    | (with_reducible apply J.blk_)
    | (with_reducible apply J.skip)
    | (with_reducible apply J.block)
    | ((with_reducible apply J.q0); exact rfl; focus (first
      | ((with_reducible apply Qv.buildW); exact rfl; exact rfl; (first | with_reducible assumption | (unfold Wo; omega) | (simp only [Wd, Wo] at *; omega)))
      | ((with_reducible apply Qv.buildW0); exact rfl; exact rfl)
      | ((with_reducible apply Qv.pure); exact rfl)
      | ((with_reducible apply Qv.fieldAddr); exact rfl; (focus ((try simp only [nl, Nat.reduceAdd, Nat.reduceMul, Int.reduceToNat]); try exact rfl)))
      | ((with_reducible first | apply Qv.indexArr | apply Qv.indexBlk | apply Qv.indexN); exact rfl; exact rfl; (first | decide | omega | (constructor <;> omega)); (focus ((try simp only [nl, Nat.reduceAdd, Nat.reduceMul, Int.reduceToNat]); try exact rfl)))
      | ((with_reducible apply Qv.field1); exact rfl; exact rfl)
      | ((with_reducible apply Qv.fieldN); exact rfl; (focus ((try simp only [nl, Nat.reduceAdd, Nat.reduceMul, Int.reduceToNat]); try exact rfl)))
      | ((with_reducible apply Qv.index1); exact rfl; exact rfl; (first | decide | omega | (constructor <;> omega)); exact rfl)
      | ((with_reducible first | apply Qv.add | apply Qv.sub | apply Qv.mul); exact rfl; exact rfl; (first | exact wr64 (by omega) (by omega) (by (try simp only [Int.reduceAdd, Int.reduceSub, Int.reduceMul]); exact rfl) | exact wru64 (by omega) (by omega) (by (try simp only [Int.reduceAdd, Int.reduceSub, Int.reduceMul]); exact rfl) | exact rfl))
      | ((with_reducible apply Qv.conv); exact rfl; (first | exact wr64 (by omega) (by omega) (by (try simp only [Int.reduceAdd, Int.reduceSub, Int.reduceMul]); exact rfl) | exact wru64 (by omega) (by omega) (by (try simp only [Int.reduceAdd, Int.reduceSub, Int.reduceMul]); exact rfl) | exact rfl))
      | ((with_reducible first | apply Qv.eqlB | apply Qv.neqB); exact rfl; exact rfl)
      | ((with_reducible first | apply Qv.buildA | apply Qv.buildS); exact rfl; (simp only [bfill, nl, Nat.reduceAdd, Nat.reduceMul, Int.reduceToNat]; exact rfl))
      | ((with_reducible apply Qv.quoP); exact rfl; exact rfl; (first | decide | omega); (omega); (first | exact wr64 (by omega) (by omega) rfl | exact wru64 (by omega) (by omega) rfl))
      | ((with_reducible apply Qv.remP); exact rfl; exact rfl; (first | decide | omega); omega)
      | ((with_reducible apply Qv.rem); exact rfl; exact rfl; (first | decide | omega); exact rfl)
      | ((with_reducible apply Qv.quo); exact rfl; exact rfl; (first | decide | omega); (first | exact wr64 (by omega) (by omega) (by (try simp only [Int.reduceAdd, Int.reduceSub, Int.reduceMul]); exact rfl) | exact wru64 (by omega) (by omega) (by (try simp only [Int.reduceAdd, Int.reduceSub, Int.reduceMul]); exact rfl) | exact rfl))
      | ((with_reducible apply Qv.shl); exact rfl; exact rfl; (first | decide | omega); (first | (first | exact wr64 (by omega) (by omega) (by (try simp only [Int.reduceAdd, Int.reduceSub, Int.reduceMul]); exact rfl) | exact wru64 (by omega) (by omega) (by (try simp only [Int.reduceAdd, Int.reduceSub, Int.reduceMul]); exact rfl) | exact rfl) | exact rfl))
      | ((with_reducible apply Qv.shr); exact rfl; exact rfl; (first | decide | omega); exact rfl)
      | ((with_reducible apply Qv.lenS); exact rfl)
      | ((with_reducible apply Qv.lenStr); exact rfl)
      | ((with_reducible apply Qv.capS); exact rfl)
      | ((with_reducible apply Qv.max); exact rfl; exact rfl)
      | ((with_reducible apply Qv.min); exact rfl; exact rfl)))
    | ((with_reducible apply J.q1); exact rfl; focus (first
      | ((with_reducible apply Qr.load1); exact rfl; (repeat (first | with_reducible exact In.here | with_reducible apply In.there)); (with_reducible refine dgv_at _ (i := i + k) ?_ ?_); omega; omega)
      | ((with_reducible apply Qr.row1); exact rfl; (repeat (first | with_reducible exact In.here | with_reducible apply In.there)); exact dgv_get _ (by omega))
      | ((with_reducible apply Qr.load1); exact rfl; (repeat (first | with_reducible exact In.here | with_reducible apply In.there)); exact rfl)
      | ((with_reducible apply Qr.loadN); exact rfl; (repeat (first | with_reducible exact In.here | with_reducible apply In.there)); (focus ((try simp only [nl, Nat.reduceAdd, Nat.reduceMul, Int.reduceToNat]); try exact rfl)); (focus (first | (simp only [nl, Nat.reduceAdd, Nat.reduceMul, Int.reduceToNat]; done) | exact rfl)))
      | ((with_reducible apply Qr.row1); exact rfl; (repeat (first | with_reducible exact In.here | with_reducible apply In.there)); exact rfl)
      | ((with_reducible apply Qr.rowN); exact rfl; (repeat (first | with_reducible exact In.here | with_reducible apply In.there)); (focus ((try simp only [nl, Nat.reduceAdd, Nat.reduceMul, Int.reduceToNat]); try exact rfl)); exact rfl)
      | ((with_reducible apply Qr.lenRow); exact rfl; (repeat (first | with_reducible exact In.here | with_reducible apply In.there)))))
    | ((with_reducible apply J.guard_on); exact rfl; exact rfl)
    | ((with_reducible apply J.guard_off); exact rfl; exact rfl; exact rfl; exact rfl)
    | ((with_reducible apply J.guard_off_none); exact rfl; exact rfl; exact rfl)
    | ((with_reducible apply J.gsplit); exact rfl; exact rfl)
    | ((with_reducible apply J.list); focus (first
      | ((with_reducible apply J.store1); exact rfl; exact rfl; exact rfl; (repeat (first | with_reducible exact Upd.here | with_reducible apply Upd.there)); (with_reducible refine dgv_put (p := i + k) ?_ ?_ ?_); omega; omega; omega; (rw [dgv_length]; omega))
      | ((with_reducible apply J.makeSlice (len := 21)); exact rfl; exact rfl; exact rfl; rfl; rfl; (decide); (decide); intro _)
      | ((with_reducible apply J.allocW); exact rfl; exact rfl; intro _)
      | ((with_reducible apply J.freshAtP (digits _)); exact rfl; exact rfl; (repeat (first | (with_reducible exact Outs.nil) | ((with_reducible apply Outs.cons); (repeat (first | with_reducible exact Out.here | with_reducible apply Out.there))))); (first | with_reducible assumption | (unfold Wd; unfold Wo at hn; omega)); intro _ _)
      | ((with_reducible apply J.keepsP (made_b _ _)); exact rfl; exact rfl; (repeat (first | (with_reducible exact Outs.nil) | ((with_reducible apply Outs.cons); (repeat (first | with_reducible exact Out.here | with_reducible apply Out.there))))); (exact end_hp ha hn (by assumption) (by omega)))
      | ((with_reducible apply J.buildSlice); exact rfl; exact rfl; exact rfl; exact rfl; exact rfl; (simp only [bfill, rep, List.replicate_succ, List.replicate_zero, List.flatten_cons, List.flatten_nil, nl, Nat.reduceAdd, Nat.reduceMul, Int.reduceToNat]; exact rfl); intro _)
      | ((with_reducible apply J.buildSlice0); exact rfl; intro _)
      | ((with_reducible apply J.append); exact rfl; exact rfl; (repeat (first | with_reducible exact Out.here | with_reducible apply Out.there)); exact rfl; (repeat (first | with_reducible exact In.here | with_reducible apply In.there)); (focus ((try simp only [nl, Nat.reduceAdd, Nat.reduceMul, Int.reduceToNat]); try exact rfl)); exact rfl; exact rfl; exact rfl; exact rfl; exact rfl; (first | decide | (simp only [maxLen]; omega) | omega); (first | decide | (simp only [maxLen]; omega) | omega); intro _)
      | ((with_reducible apply J.appendNil); exact rfl; exact rfl; exact rfl; (repeat (first | with_reducible exact In.here | with_reducible apply In.there)); (focus ((try simp only [nl, Nat.reduceAdd, Nat.reduceMul, Int.reduceToNat]); try exact rfl)); exact rfl; exact rfl; exact rfl; exact rfl; exact rfl; (first | decide | (simp only [maxLen]; omega) | omega); (first | decide | (simp only [maxLen]; omega) | omega); intro _)
      | ((with_reducible apply J.boxN); exact rfl; exact rfl; intro _)
      | ((with_reducible apply J.box1); exact rfl; exact rfl; exact rfl; intro _)
      | ((with_reducible apply J.alloc); exact rfl; intro _)
      | ((with_reducible apply J.storeN); exact rfl; exact rfl; (repeat (first | with_reducible exact Upd.here | with_reducible apply Upd.there)); (focus ((try simp only [nl, Nat.reduceAdd, Nat.reduceMul, Int.reduceToNat]); try exact rfl)); (focus (first | (simp only [nl, Nat.reduceAdd, Nat.reduceMul, Int.reduceToNat]; done) | exact rfl)); (focus (first | (simp only [nl, Nat.reduceAdd, Nat.reduceMul, Int.reduceToNat]; done) | (simp only [nl, Nat.reduceAdd, Nat.reduceMul, Int.reduceToNat]; omega) | decide)); (first | (with_reducible exact wvs_ones _ _) | exact rfl))
      | ((with_reducible apply J.store1); exact rfl; exact rfl; exact rfl; (repeat (first | with_reducible exact Upd.here | with_reducible apply Upd.there)); (focus ((try simp only [nl, Nat.reduceAdd, Nat.reduceMul, Int.reduceToNat]); try exact rfl)); (first | decide | (simp only [nl, Nat.reduceAdd, Nat.reduceMul, Int.reduceToNat]; omega)))))
    | ((with_reducible apply J.cond_true); exact rfl)
    | ((with_reducible apply J.cond_false); exact rfl)
    | ((with_reducible apply J.cond); exact rfl)
    | (intro h; exfalso; (first | (simp at h; done) | omega))
    | (intro h; (try simp only [decide_eq_true_eq, decide_eq_false_iff_not, beq_iff_eq, beq_eq_false_iff_ne, Bool.not_eq_true', Bool.not_eq_false', bne_iff_ne, bne_eq_false_iff_eq, ne_eq, ge_iff_le, gt_iff_lt] at h))
    | (with_reducible apply J.cret)
    | ((with_reducible apply J.ret); exact rfl; exact rfl; (repeat (first | (with_reducible exact Res.nil) | ((with_reducible apply Res.tmp); exact rfl) | ((with_reducible apply Res.cell1); exact rfl; (repeat (first | with_reducible exact In.here | with_reducible apply In.there)); exact rfl) | ((with_reducible apply Res.cellN); exact rfl; (repeat (first | with_reducible exact In.here | with_reducible apply In.there)); (focus ((try simp only [nl, Nat.reduceAdd, Nat.reduceMul, Int.reduceToNat]); try exact rfl)); (focus (first | (simp only [nl, Nat.reduceAdd, Nat.reduceMul, Int.reduceToNat]; done) | exact rfl))))); exact rfl)
    | ((with_reducible apply J.ret_normal); exact rfl; exact rfl; (repeat (first | (with_reducible exact Res.nil) | ((with_reducible apply Res.tmp); exact rfl) | ((with_reducible apply Res.cell1); exact rfl; (repeat (first | with_reducible exact In.here | with_reducible apply In.there)); exact rfl) | ((with_reducible apply Res.cellN); exact rfl; (repeat (first | with_reducible exact In.here | with_reducible apply In.there)); (focus ((try simp only [nl, Nat.reduceAdd, Nat.reduceMul, Int.reduceToNat]); try exact rfl)); (focus (first | (simp only [nl, Nat.reduceAdd, Nat.reduceMul, Int.reduceToNat]; done) | exact rfl))))); exact rfl)
    | (with_reducible apply J.gave')
    | ((with_reducible apply J.kept'); rotate_left; (repeat (first | (with_reducible exact Outs.nil) | ((with_reducible apply Outs.cons); (repeat (first | with_reducible exact Out.here | with_reducible apply Out.there))))))
    | (with_reducible apply J.exit)
    | (with_reducible apply J.then_ret)
    | (with_reducible apply J.then_exit)
    | (with_reducible apply J.then_panic)
    | (with_reducible apply J.blk_ret)
    | (with_reducible apply J.blk_panic)
    | (with_reducible apply J.blk_exit)
    | ((with_reducible apply J.blk_past); exact rfl)
    | ((with_reducible apply J.draw (id := 13) [0, 0, 0, 0, 12, 30, 62, 127, 0, 0, 768, 1792, 0, 7936, 16383, 32767] (.p 0 (.p 1 (.p 2 (.p 3 (.p 4 (.p 5 (.q 6 (.p 7 (.p 8 (.p 9 (.p 10 (.q 11 (.p 12 (.p 13 (.p 14 (.p 15 .nil)))))))))))))))) (by kernel_rfl) ?_ (by kernel_rfl) ?_); (repeat (with_reducible first | exact PanicFree.body | apply PanicFree.then_ | apply PanicFree.blk)))
    | ((with_reducible apply J.pl0); exact rfl; (first | exact Gd.none | ((with_reducible apply Gd.on); exact rfl; exact rfl)); exact rfl; focus (first
      | ((with_reducible apply Qv.buildW); exact rfl; exact rfl; (first | with_reducible assumption | (unfold Wo; omega) | (simp only [Wd, Wo] at *; omega)))
      | ((with_reducible apply Qv.buildW0); exact rfl; exact rfl)
      | ((with_reducible apply Qv.pure); exact rfl)
      | ((with_reducible apply Qv.fieldAddr); exact rfl; (focus ((try simp only [nl, Nat.reduceAdd, Nat.reduceMul, Int.reduceToNat]); try exact rfl)))
      | ((with_reducible first | apply Qv.indexArr | apply Qv.indexBlk | apply Qv.indexN); exact rfl; exact rfl; (first | decide | omega | (constructor <;> omega)); (focus ((try simp only [nl, Nat.reduceAdd, Nat.reduceMul, Int.reduceToNat]); try exact rfl)))
      | ((with_reducible apply Qv.field1); exact rfl; exact rfl)
      | ((with_reducible apply Qv.fieldN); exact rfl; (focus ((try simp only [nl, Nat.reduceAdd, Nat.reduceMul, Int.reduceToNat]); try exact rfl)))
      | ((with_reducible apply Qv.index1); exact rfl; exact rfl; (first | decide | omega | (constructor <;> omega)); exact rfl)
      | ((with_reducible first | apply Qv.add | apply Qv.sub | apply Qv.mul); exact rfl; exact rfl; (first | exact wr64 (by omega) (by omega) (by (try simp only [Int.reduceAdd, Int.reduceSub, Int.reduceMul]); exact rfl) | exact wru64 (by omega) (by omega) (by (try simp only [Int.reduceAdd, Int.reduceSub, Int.reduceMul]); exact rfl) | exact rfl))
      | ((with_reducible apply Qv.conv); exact rfl; (first | exact wr64 (by omega) (by omega) (by (try simp only [Int.reduceAdd, Int.reduceSub, Int.reduceMul]); exact rfl) | exact wru64 (by omega) (by omega) (by (try simp only [Int.reduceAdd, Int.reduceSub, Int.reduceMul]); exact rfl) | exact rfl))
      | ((with_reducible first | apply Qv.eqlB | apply Qv.neqB); exact rfl; exact rfl)
      | ((with_reducible first | apply Qv.buildA | apply Qv.buildS); exact rfl; (simp only [bfill, nl, Nat.reduceAdd, Nat.reduceMul, Int.reduceToNat]; exact rfl))
      | ((with_reducible apply Qv.quoP); exact rfl; exact rfl; (first | decide | omega); (omega); (first | exact wr64 (by omega) (by omega) rfl | exact wru64 (by omega) (by omega) rfl))
      | ((with_reducible apply Qv.remP); exact rfl; exact rfl; (first | decide | omega); omega)
      | ((with_reducible apply Qv.rem); exact rfl; exact rfl; (first | decide | omega); exact rfl)
      | ((with_reducible apply Qv.quo); exact rfl; exact rfl; (first | decide | omega); (first | exact wr64 (by omega) (by omega) (by (try simp only [Int.reduceAdd, Int.reduceSub, Int.reduceMul]); exact rfl) | exact wru64 (by omega) (by omega) (by (try simp only [Int.reduceAdd, Int.reduceSub, Int.reduceMul]); exact rfl) | exact rfl))
      | ((with_reducible apply Qv.shl); exact rfl; exact rfl; (first | decide | omega); (first | (first | exact wr64 (by omega) (by omega) (by (try simp only [Int.reduceAdd, Int.reduceSub, Int.reduceMul]); exact rfl) | exact wru64 (by omega) (by omega) (by (try simp only [Int.reduceAdd, Int.reduceSub, Int.reduceMul]); exact rfl) | exact rfl) | exact rfl))
      | ((with_reducible apply Qv.shr); exact rfl; exact rfl; (first | decide | omega); exact rfl)
      | ((with_reducible apply Qv.lenS); exact rfl)
      | ((with_reducible apply Qv.lenStr); exact rfl)
      | ((with_reducible apply Qv.capS); exact rfl)
      | ((with_reducible apply Qv.max); exact rfl; exact rfl)
      | ((with_reducible apply Qv.min); exact rfl; exact rfl)))
    | ((with_reducible apply J.pl0_off); exact rfl; ((with_reducible apply Gd.off); exact rfl; exact rfl; exact rfl); exact rfl)
    | ((with_reducible apply J.pl1); exact rfl; (first | exact Gd.none | ((with_reducible apply Gd.on); exact rfl; exact rfl)); exact rfl; focus (first
      | ((with_reducible apply Qr.load1); exact rfl; (repeat (first | with_reducible exact In.here | with_reducible apply In.there)); (with_reducible refine dgv_at _ (i := i + k) ?_ ?_); omega; omega)
      | ((with_reducible apply Qr.row1); exact rfl; (repeat (first | with_reducible exact In.here | with_reducible apply In.there)); exact dgv_get _ (by omega))
      | ((with_reducible apply Qr.load1); exact rfl; (repeat (first | with_reducible exact In.here | with_reducible apply In.there)); exact rfl)
      | ((with_reducible apply Qr.loadN); exact rfl; (repeat (first | with_reducible exact In.here | with_reducible apply In.there)); (focus ((try simp only [nl, Nat.reduceAdd, Nat.reduceMul, Int.reduceToNat]); try exact rfl)); (focus (first | (simp only [nl, Nat.reduceAdd, Nat.reduceMul, Int.reduceToNat]; done) | exact rfl)))
      | ((with_reducible apply Qr.row1); exact rfl; (repeat (first | with_reducible exact In.here | with_reducible apply In.there)); exact rfl)
      | ((with_reducible apply Qr.rowN); exact rfl; (repeat (first | with_reducible exact In.here | with_reducible apply In.there)); (focus ((try simp only [nl, Nat.reduceAdd, Nat.reduceMul, Int.reduceToNat]); try exact rfl)); exact rfl)
      | ((with_reducible apply Qr.lenRow); exact rfl; (repeat (first | with_reducible exact In.here | with_reducible apply In.there)))))
    | ((with_reducible apply J.pl1_off); exact rfl; ((with_reducible apply Gd.off); exact rfl; exact rfl; exact rfl); exact rfl)
    | ((with_reducible apply J.pl2); exact rfl; (first | exact Gd.none | ((with_reducible apply Gd.on); exact rfl; exact rfl)); (repeat (first | (with_reducible exact PendF.nil) | ((with_reducible apply PendF.keep); exact rfl) | ((with_reducible apply PendF.gone); exact rfl))); focus (first
      | ((with_reducible apply J.store1); exact rfl; exact rfl; exact rfl; (repeat (first | with_reducible exact Upd.here | with_reducible apply Upd.there)); (with_reducible refine dgv_put (p := i + k) ?_ ?_ ?_); omega; omega; omega; (rw [dgv_length]; omega))
      | ((with_reducible apply J.makeSlice (len := 21)); exact rfl; exact rfl; exact rfl; rfl; rfl; (decide); (decide); intro _)
      | ((with_reducible apply J.allocW); exact rfl; exact rfl; intro _)
      | ((with_reducible apply J.freshAtP (digits _)); exact rfl; exact rfl; (repeat (first | (with_reducible exact Outs.nil) | ((with_reducible apply Outs.cons); (repeat (first | with_reducible exact Out.here | with_reducible apply Out.there))))); (first | with_reducible assumption | (unfold Wd; unfold Wo at hn; omega)); intro _ _)
      | ((with_reducible apply J.keepsP (made_b _ _)); exact rfl; exact rfl; (repeat (first | (with_reducible exact Outs.nil) | ((with_reducible apply Outs.cons); (repeat (first | with_reducible exact Out.here | with_reducible apply Out.there))))); (exact end_hp ha hn (by assumption) (by omega)))
      | ((with_reducible apply J.buildSlice); exact rfl; exact rfl; exact rfl; exact rfl; exact rfl; (simp only [bfill, rep, List.replicate_succ, List.replicate_zero, List.flatten_cons, List.flatten_nil, nl, Nat.reduceAdd, Nat.reduceMul, Int.reduceToNat]; exact rfl); intro _)
      | ((with_reducible apply J.buildSlice0); exact rfl; intro _)
      | ((with_reducible apply J.append); exact rfl; exact rfl; (repeat (first | with_reducible exact Out.here | with_reducible apply Out.there)); exact rfl; (repeat (first | with_reducible exact In.here | with_reducible apply In.there)); (focus ((try simp only [nl, Nat.reduceAdd, Nat.reduceMul, Int.reduceToNat]); try exact rfl)); exact rfl; exact rfl; exact rfl; exact rfl; exact rfl; (first | decide | (simp only [maxLen]; omega) | omega); (first | decide | (simp only [maxLen]; omega) | omega); intro _)
      | ((with_reducible apply J.appendNil); exact rfl; exact rfl; exact rfl; (repeat (first | with_reducible exact In.here | with_reducible apply In.there)); (focus ((try simp only [nl, Nat.reduceAdd, Nat.reduceMul, Int.reduceToNat]); try exact rfl)); exact rfl; exact rfl; exact rfl; exact rfl; exact rfl; (first | decide | (simp only [maxLen]; omega) | omega); (first | decide | (simp only [maxLen]; omega) | omega); intro _)
      | ((with_reducible apply J.boxN); exact rfl; exact rfl; intro _)
      | ((with_reducible apply J.box1); exact rfl; exact rfl; exact rfl; intro _)
      | ((with_reducible apply J.alloc); exact rfl; intro _)
      | ((with_reducible apply J.storeN); exact rfl; exact rfl; (repeat (first | with_reducible exact Upd.here | with_reducible apply Upd.there)); (focus ((try simp only [nl, Nat.reduceAdd, Nat.reduceMul, Int.reduceToNat]); try exact rfl)); (focus (first | (simp only [nl, Nat.reduceAdd, Nat.reduceMul, Int.reduceToNat]; done) | exact rfl)); (focus (first | (simp only [nl, Nat.reduceAdd, Nat.reduceMul, Int.reduceToNat]; done) | (simp only [nl, Nat.reduceAdd, Nat.reduceMul, Int.reduceToNat]; omega) | decide)); (first | (with_reducible exact wvs_ones _ _) | exact rfl))
      | ((with_reducible apply J.store1); exact rfl; exact rfl; exact rfl; (repeat (first | with_reducible exact Upd.here | with_reducible apply Upd.there)); (focus ((try simp only [nl, Nat.reduceAdd, Nat.reduceMul, Int.reduceToNat]); try exact rfl)); (first | decide | (simp only [nl, Nat.reduceAdd, Nat.reduceMul, Int.reduceToNat]; omega)))))
    | ((with_reducible apply J.pl2_off); exact rfl; ((with_reducible apply Gd.off); exact rfl; exact rfl; exact rfl); exact rfl; (repeat (first | (with_reducible exact PendF.nil) | ((with_reducible apply PendF.keep); exact rfl) | ((with_reducible apply PendF.gone); exact rfl))))
    | ((with_reducible apply J.pl2_off_none); exact rfl; ((with_reducible apply Gd.off); exact rfl; exact rfl; exact rfl); (repeat (first | (with_reducible exact PendF.nil) | ((with_reducible apply PendF.keep); exact rfl) | ((with_reducible apply PendF.gone); exact rfl))))
    | (with_reducible apply J.owe_nil)
    | ((with_reducible apply J.owe); exact rfl; (first | exact Gd.none | ((with_reducible apply Gd.on); exact rfl; exact rfl)); focus (first
      | ((with_reducible apply Qr.load1); exact rfl; (repeat (first | with_reducible exact In.here | with_reducible apply In.there)); (with_reducible refine dgv_at _ (i := i + k) ?_ ?_); omega; omega)
      | ((with_reducible apply Qr.row1); exact rfl; (repeat (first | with_reducible exact In.here | with_reducible apply In.there)); exact dgv_get _ (by omega))
      | ((with_reducible apply Qr.load1); exact rfl; (repeat (first | with_reducible exact In.here | with_reducible apply In.there)); exact rfl)
      | ((with_reducible apply Qr.loadN); exact rfl; (repeat (first | with_reducible exact In.here | with_reducible apply In.there)); (focus ((try simp only [nl, Nat.reduceAdd, Nat.reduceMul, Int.reduceToNat]); try exact rfl)); (focus (first | (simp only [nl, Nat.reduceAdd, Nat.reduceMul, Int.reduceToNat]; done) | exact rfl)))
      | ((with_reducible apply Qr.row1); exact rfl; (repeat (first | with_reducible exact In.here | with_reducible apply In.there)); exact rfl)
      | ((with_reducible apply Qr.rowN); exact rfl; (repeat (first | with_reducible exact In.here | with_reducible apply In.there)); (focus ((try simp only [nl, Nat.reduceAdd, Nat.reduceMul, Int.reduceToNat]); try exact rfl)); exact rfl)
      | ((with_reducible apply Qr.lenRow); exact rfl; (repeat (first | with_reducible exact In.here | with_reducible apply In.there)))))
    | ((with_reducible apply J.owe_off); exact rfl; ((with_reducible apply Gd.off); exact rfl; exact rfl; exact rfl))
    | ((with_reducible first | apply J.psplit0 | apply J.psplit1 | apply J.psplit2); exact rfl; exact rfl; exact rfl)
    | (with_reducible apply J.pl_nil)
    | (with_reducible exact J.pl_none)
  rename_i b2 b4 gx cx gy cy bo
  apply J.reB (b := bo) (C' := dgv (lo a 0 * n) 21)
  · (repeat (first | with_reducible exact Upd.here | with_reducible apply Upd.there))
  · (rw [show lo a 0 * n = 0 by simp [lo, Int.emod_one]]; kernel_rfl)
  apply J.loopI (σ := Nat) (I := fun q => q ≤ 16) (L := fun q => [(4, .pointer (some ⟨b4, 0, none⟩)), (5, .bool false), (6, .slice (some ⟨gx, 0, none⟩) 16 cx), (7, .slice (some ⟨gy, 0, none⟩) 16 cy), (8, .slice (some ⟨bo, 0, none⟩) 21 21), (9, .int .i64 (q : Int))]) (HH := fun q => [Eng.rowAt gx cx 3 1 16 (dgv a 16), Eng.rowAt gy cy 3 1 16 (dgv n 16), blk b4 (wv 0) 32, blk bo (dgv (lo a q * n) 21) 3]) (m := fun q => 16 - q) (s0 := 0)
  · ((try dsimp only); omega)
  · ((try dsimp only); repeat (first | exact sub.nil _ | (refine sub.consE rfl ?_ ?_; (first | with_reducible rfl | (fail) | rfl))))
  · ((try dsimp only); (repeat (first | (with_reducible exact Outs.nil) | ((with_reducible apply Outs.cons); (repeat (first | with_reducible exact Out.here | with_reducible apply Out.there))))))
  rintro i hI
  try dsimp only at hI ⊢
  repeat' first
    | (with_reducible apply J.seq)
    | (with_reducible apply J.region_lit)
    | (with_reducible apply J.ops_nil)
    | (with_reducible apply J.app_cons)
    | (with_reducible apply J.app_nil)
    | (with_reducible apply J.then_)
    | (with_reducible apply J.blk_)
    | (with_reducible apply J.skip)
    | (with_reducible apply J.block)
    | ((with_reducible apply J.q0); exact rfl; focus (first
      | ((with_reducible apply Qv.buildW); exact rfl; exact rfl; (first | with_reducible assumption | (unfold Wo; omega) | (simp only [Wd, Wo] at *; omega)))
      | ((with_reducible apply Qv.buildW0); exact rfl; exact rfl)
      | ((with_reducible apply Qv.pure); exact rfl)
      | ((with_reducible apply Qv.fieldAddr); exact rfl; (focus ((try simp only [nl, Nat.reduceAdd, Nat.reduceMul, Int.reduceToNat]); try exact rfl)))
      | ((with_reducible first | apply Qv.indexArr | apply Qv.indexBlk | apply Qv.indexN); exact rfl; exact rfl; (first | decide | omega | (constructor <;> omega)); (focus ((try simp only [nl, Nat.reduceAdd, Nat.reduceMul, Int.reduceToNat]); try exact rfl)))
      | ((with_reducible apply Qv.field1); exact rfl; exact rfl)
      | ((with_reducible apply Qv.fieldN); exact rfl; (focus ((try simp only [nl, Nat.reduceAdd, Nat.reduceMul, Int.reduceToNat]); try exact rfl)))
      | ((with_reducible apply Qv.index1); exact rfl; exact rfl; (first | decide | omega | (constructor <;> omega)); exact rfl)
      | ((with_reducible first | apply Qv.add | apply Qv.sub | apply Qv.mul); exact rfl; exact rfl; (first | exact wr64 (by omega) (by omega) (by (try simp only [Int.reduceAdd, Int.reduceSub, Int.reduceMul]); exact rfl) | exact wru64 (by omega) (by omega) (by (try simp only [Int.reduceAdd, Int.reduceSub, Int.reduceMul]); exact rfl) | exact rfl))
      | ((with_reducible apply Qv.conv); exact rfl; (first | exact wr64 (by omega) (by omega) (by (try simp only [Int.reduceAdd, Int.reduceSub, Int.reduceMul]); exact rfl) | exact wru64 (by omega) (by omega) (by (try simp only [Int.reduceAdd, Int.reduceSub, Int.reduceMul]); exact rfl) | exact rfl))
      | ((with_reducible first | apply Qv.eqlB | apply Qv.neqB); exact rfl; exact rfl)
      | ((with_reducible first | apply Qv.buildA | apply Qv.buildS); exact rfl; (simp only [bfill, nl, Nat.reduceAdd, Nat.reduceMul, Int.reduceToNat]; exact rfl))
      | ((with_reducible apply Qv.quoP); exact rfl; exact rfl; (first | decide | omega); (omega); (first | exact wr64 (by omega) (by omega) rfl | exact wru64 (by omega) (by omega) rfl))
      | ((with_reducible apply Qv.remP); exact rfl; exact rfl; (first | decide | omega); omega)
      | ((with_reducible apply Qv.rem); exact rfl; exact rfl; (first | decide | omega); exact rfl)
      | ((with_reducible apply Qv.quo); exact rfl; exact rfl; (first | decide | omega); (first | exact wr64 (by omega) (by omega) (by (try simp only [Int.reduceAdd, Int.reduceSub, Int.reduceMul]); exact rfl) | exact wru64 (by omega) (by omega) (by (try simp only [Int.reduceAdd, Int.reduceSub, Int.reduceMul]); exact rfl) | exact rfl))
      | ((with_reducible apply Qv.shl); exact rfl; exact rfl; (first | decide | omega); (first | (first | exact wr64 (by omega) (by omega) (by (try simp only [Int.reduceAdd, Int.reduceSub, Int.reduceMul]); exact rfl) | exact wru64 (by omega) (by omega) (by (try simp only [Int.reduceAdd, Int.reduceSub, Int.reduceMul]); exact rfl) | exact rfl) | exact rfl))
      | ((with_reducible apply Qv.shr); exact rfl; exact rfl; (first | decide | omega); exact rfl)
      | ((with_reducible apply Qv.lenS); exact rfl)
      | ((with_reducible apply Qv.lenStr); exact rfl)
      | ((with_reducible apply Qv.capS); exact rfl)
      | ((with_reducible apply Qv.max); exact rfl; exact rfl)
      | ((with_reducible apply Qv.min); exact rfl; exact rfl)))
    | ((with_reducible apply J.q1); exact rfl; focus (first
      | ((with_reducible apply Qr.load1); exact rfl; (repeat (first | with_reducible exact In.here | with_reducible apply In.there)); (with_reducible refine dgv_at _ (i := i + k) ?_ ?_); omega; omega)
      | ((with_reducible apply Qr.row1); exact rfl; (repeat (first | with_reducible exact In.here | with_reducible apply In.there)); exact dgv_get _ (by omega))
      | ((with_reducible apply Qr.load1); exact rfl; (repeat (first | with_reducible exact In.here | with_reducible apply In.there)); exact rfl)
      | ((with_reducible apply Qr.loadN); exact rfl; (repeat (first | with_reducible exact In.here | with_reducible apply In.there)); (focus ((try simp only [nl, Nat.reduceAdd, Nat.reduceMul, Int.reduceToNat]); try exact rfl)); (focus (first | (simp only [nl, Nat.reduceAdd, Nat.reduceMul, Int.reduceToNat]; done) | exact rfl)))
      | ((with_reducible apply Qr.row1); exact rfl; (repeat (first | with_reducible exact In.here | with_reducible apply In.there)); exact rfl)
      | ((with_reducible apply Qr.rowN); exact rfl; (repeat (first | with_reducible exact In.here | with_reducible apply In.there)); (focus ((try simp only [nl, Nat.reduceAdd, Nat.reduceMul, Int.reduceToNat]); try exact rfl)); exact rfl)
      | ((with_reducible apply Qr.lenRow); exact rfl; (repeat (first | with_reducible exact In.here | with_reducible apply In.there)))))
    | ((with_reducible apply J.guard_on); exact rfl; exact rfl)
    | ((with_reducible apply J.guard_off); exact rfl; exact rfl; exact rfl; exact rfl)
    | ((with_reducible apply J.guard_off_none); exact rfl; exact rfl; exact rfl)
    | ((with_reducible apply J.gsplit); exact rfl; exact rfl)
    | ((with_reducible apply J.list); focus (first
      | ((with_reducible apply J.store1); exact rfl; exact rfl; exact rfl; (repeat (first | with_reducible exact Upd.here | with_reducible apply Upd.there)); (with_reducible refine dgv_put (p := i + k) ?_ ?_ ?_); omega; omega; omega; (rw [dgv_length]; omega))
      | ((with_reducible apply J.makeSlice (len := 21)); exact rfl; exact rfl; exact rfl; rfl; rfl; (decide); (decide); intro _)
      | ((with_reducible apply J.allocW); exact rfl; exact rfl; intro _)
      | ((with_reducible apply J.freshAtP (digits _)); exact rfl; exact rfl; (repeat (first | (with_reducible exact Outs.nil) | ((with_reducible apply Outs.cons); (repeat (first | with_reducible exact Out.here | with_reducible apply Out.there))))); (first | with_reducible assumption | (unfold Wd; unfold Wo at hn; omega)); intro _ _)
      | ((with_reducible apply J.keepsP (made_b _ _)); exact rfl; exact rfl; (repeat (first | (with_reducible exact Outs.nil) | ((with_reducible apply Outs.cons); (repeat (first | with_reducible exact Out.here | with_reducible apply Out.there))))); (exact end_hp ha hn (by assumption) (by omega)))
      | ((with_reducible apply J.buildSlice); exact rfl; exact rfl; exact rfl; exact rfl; exact rfl; (simp only [bfill, rep, List.replicate_succ, List.replicate_zero, List.flatten_cons, List.flatten_nil, nl, Nat.reduceAdd, Nat.reduceMul, Int.reduceToNat]; exact rfl); intro _)
      | ((with_reducible apply J.buildSlice0); exact rfl; intro _)
      | ((with_reducible apply J.append); exact rfl; exact rfl; (repeat (first | with_reducible exact Out.here | with_reducible apply Out.there)); exact rfl; (repeat (first | with_reducible exact In.here | with_reducible apply In.there)); (focus ((try simp only [nl, Nat.reduceAdd, Nat.reduceMul, Int.reduceToNat]); try exact rfl)); exact rfl; exact rfl; exact rfl; exact rfl; exact rfl; (first | decide | (simp only [maxLen]; omega) | omega); (first | decide | (simp only [maxLen]; omega) | omega); intro _)
      | ((with_reducible apply J.appendNil); exact rfl; exact rfl; exact rfl; (repeat (first | with_reducible exact In.here | with_reducible apply In.there)); (focus ((try simp only [nl, Nat.reduceAdd, Nat.reduceMul, Int.reduceToNat]); try exact rfl)); exact rfl; exact rfl; exact rfl; exact rfl; exact rfl; (first | decide | (simp only [maxLen]; omega) | omega); (first | decide | (simp only [maxLen]; omega) | omega); intro _)
      | ((with_reducible apply J.boxN); exact rfl; exact rfl; intro _)
      | ((with_reducible apply J.box1); exact rfl; exact rfl; exact rfl; intro _)
      | ((with_reducible apply J.alloc); exact rfl; intro _)
      | ((with_reducible apply J.storeN); exact rfl; exact rfl; (repeat (first | with_reducible exact Upd.here | with_reducible apply Upd.there)); (focus ((try simp only [nl, Nat.reduceAdd, Nat.reduceMul, Int.reduceToNat]); try exact rfl)); (focus (first | (simp only [nl, Nat.reduceAdd, Nat.reduceMul, Int.reduceToNat]; done) | exact rfl)); (focus (first | (simp only [nl, Nat.reduceAdd, Nat.reduceMul, Int.reduceToNat]; done) | (simp only [nl, Nat.reduceAdd, Nat.reduceMul, Int.reduceToNat]; omega) | decide)); (first | (with_reducible exact wvs_ones _ _) | exact rfl))
      | ((with_reducible apply J.store1); exact rfl; exact rfl; exact rfl; (repeat (first | with_reducible exact Upd.here | with_reducible apply Upd.there)); (focus ((try simp only [nl, Nat.reduceAdd, Nat.reduceMul, Int.reduceToNat]); try exact rfl)); (first | decide | (simp only [nl, Nat.reduceAdd, Nat.reduceMul, Int.reduceToNat]; omega)))))
    | ((with_reducible apply J.cond_true); exact rfl)
    | ((with_reducible apply J.cond_false); exact rfl)
    | ((with_reducible apply J.cond); exact rfl)
    | (intro h; exfalso; (first | (simp at h; done) | omega))
    | (intro h; (try simp only [decide_eq_true_eq, decide_eq_false_iff_not, beq_iff_eq, beq_eq_false_iff_ne, Bool.not_eq_true', Bool.not_eq_false', bne_iff_ne, bne_eq_false_iff_eq, ne_eq, ge_iff_le, gt_iff_lt] at h))
    | (with_reducible apply J.cret)
    | ((with_reducible apply J.ret); exact rfl; exact rfl; (repeat (first | (with_reducible exact Res.nil) | ((with_reducible apply Res.tmp); exact rfl) | ((with_reducible apply Res.cell1); exact rfl; (repeat (first | with_reducible exact In.here | with_reducible apply In.there)); exact rfl) | ((with_reducible apply Res.cellN); exact rfl; (repeat (first | with_reducible exact In.here | with_reducible apply In.there)); (focus ((try simp only [nl, Nat.reduceAdd, Nat.reduceMul, Int.reduceToNat]); try exact rfl)); (focus (first | (simp only [nl, Nat.reduceAdd, Nat.reduceMul, Int.reduceToNat]; done) | exact rfl))))); exact rfl)
    | ((with_reducible apply J.ret_normal); exact rfl; exact rfl; (repeat (first | (with_reducible exact Res.nil) | ((with_reducible apply Res.tmp); exact rfl) | ((with_reducible apply Res.cell1); exact rfl; (repeat (first | with_reducible exact In.here | with_reducible apply In.there)); exact rfl) | ((with_reducible apply Res.cellN); exact rfl; (repeat (first | with_reducible exact In.here | with_reducible apply In.there)); (focus ((try simp only [nl, Nat.reduceAdd, Nat.reduceMul, Int.reduceToNat]); try exact rfl)); (focus (first | (simp only [nl, Nat.reduceAdd, Nat.reduceMul, Int.reduceToNat]; done) | exact rfl))))); exact rfl)
    | (with_reducible apply J.gave')
    | ((with_reducible apply J.kept'); rotate_left; (repeat (first | (with_reducible exact Outs.nil) | ((with_reducible apply Outs.cons); (repeat (first | with_reducible exact Out.here | with_reducible apply Out.there))))))
    | (with_reducible apply J.exit)
    | (with_reducible apply J.then_ret)
    | (with_reducible apply J.then_exit)
    | (with_reducible apply J.then_panic)
    | (with_reducible apply J.blk_ret)
    | (with_reducible apply J.blk_panic)
    | (with_reducible apply J.blk_exit)
    | ((with_reducible apply J.blk_past); exact rfl)
    | ((with_reducible apply J.draw (id := 13) [0, 0, 0, 0, 12, 30, 62, 127, 0, 0, 768, 1792, 0, 7936, 16383, 32767] (.p 0 (.p 1 (.p 2 (.p 3 (.p 4 (.p 5 (.q 6 (.p 7 (.p 8 (.p 9 (.p 10 (.q 11 (.p 12 (.p 13 (.p 14 (.p 15 .nil)))))))))))))))) (by kernel_rfl) ?_ (by kernel_rfl) ?_); (repeat (with_reducible first | exact PanicFree.body | apply PanicFree.then_ | apply PanicFree.blk)))
    | ((with_reducible apply J.pl0); exact rfl; (first | exact Gd.none | ((with_reducible apply Gd.on); exact rfl; exact rfl)); exact rfl; focus (first
      | ((with_reducible apply Qv.buildW); exact rfl; exact rfl; (first | with_reducible assumption | (unfold Wo; omega) | (simp only [Wd, Wo] at *; omega)))
      | ((with_reducible apply Qv.buildW0); exact rfl; exact rfl)
      | ((with_reducible apply Qv.pure); exact rfl)
      | ((with_reducible apply Qv.fieldAddr); exact rfl; (focus ((try simp only [nl, Nat.reduceAdd, Nat.reduceMul, Int.reduceToNat]); try exact rfl)))
      | ((with_reducible first | apply Qv.indexArr | apply Qv.indexBlk | apply Qv.indexN); exact rfl; exact rfl; (first | decide | omega | (constructor <;> omega)); (focus ((try simp only [nl, Nat.reduceAdd, Nat.reduceMul, Int.reduceToNat]); try exact rfl)))
      | ((with_reducible apply Qv.field1); exact rfl; exact rfl)
      | ((with_reducible apply Qv.fieldN); exact rfl; (focus ((try simp only [nl, Nat.reduceAdd, Nat.reduceMul, Int.reduceToNat]); try exact rfl)))
      | ((with_reducible apply Qv.index1); exact rfl; exact rfl; (first | decide | omega | (constructor <;> omega)); exact rfl)
      | ((with_reducible first | apply Qv.add | apply Qv.sub | apply Qv.mul); exact rfl; exact rfl; (first | exact wr64 (by omega) (by omega) (by (try simp only [Int.reduceAdd, Int.reduceSub, Int.reduceMul]); exact rfl) | exact wru64 (by omega) (by omega) (by (try simp only [Int.reduceAdd, Int.reduceSub, Int.reduceMul]); exact rfl) | exact rfl))
      | ((with_reducible apply Qv.conv); exact rfl; (first | exact wr64 (by omega) (by omega) (by (try simp only [Int.reduceAdd, Int.reduceSub, Int.reduceMul]); exact rfl) | exact wru64 (by omega) (by omega) (by (try simp only [Int.reduceAdd, Int.reduceSub, Int.reduceMul]); exact rfl) | exact rfl))
      | ((with_reducible first | apply Qv.eqlB | apply Qv.neqB); exact rfl; exact rfl)
      | ((with_reducible first | apply Qv.buildA | apply Qv.buildS); exact rfl; (simp only [bfill, nl, Nat.reduceAdd, Nat.reduceMul, Int.reduceToNat]; exact rfl))
      | ((with_reducible apply Qv.quoP); exact rfl; exact rfl; (first | decide | omega); (omega); (first | exact wr64 (by omega) (by omega) rfl | exact wru64 (by omega) (by omega) rfl))
      | ((with_reducible apply Qv.remP); exact rfl; exact rfl; (first | decide | omega); omega)
      | ((with_reducible apply Qv.rem); exact rfl; exact rfl; (first | decide | omega); exact rfl)
      | ((with_reducible apply Qv.quo); exact rfl; exact rfl; (first | decide | omega); (first | exact wr64 (by omega) (by omega) (by (try simp only [Int.reduceAdd, Int.reduceSub, Int.reduceMul]); exact rfl) | exact wru64 (by omega) (by omega) (by (try simp only [Int.reduceAdd, Int.reduceSub, Int.reduceMul]); exact rfl) | exact rfl))
      | ((with_reducible apply Qv.shl); exact rfl; exact rfl; (first | decide | omega); (first | (first | exact wr64 (by omega) (by omega) (by (try simp only [Int.reduceAdd, Int.reduceSub, Int.reduceMul]); exact rfl) | exact wru64 (by omega) (by omega) (by (try simp only [Int.reduceAdd, Int.reduceSub, Int.reduceMul]); exact rfl) | exact rfl) | exact rfl))
      | ((with_reducible apply Qv.shr); exact rfl; exact rfl; (first | decide | omega); exact rfl)
      | ((with_reducible apply Qv.lenS); exact rfl)
      | ((with_reducible apply Qv.lenStr); exact rfl)
      | ((with_reducible apply Qv.capS); exact rfl)
      | ((with_reducible apply Qv.max); exact rfl; exact rfl)
      | ((with_reducible apply Qv.min); exact rfl; exact rfl)))
    | ((with_reducible apply J.pl0_off); exact rfl; ((with_reducible apply Gd.off); exact rfl; exact rfl; exact rfl); exact rfl)
    | ((with_reducible apply J.pl1); exact rfl; (first | exact Gd.none | ((with_reducible apply Gd.on); exact rfl; exact rfl)); exact rfl; focus (first
      | ((with_reducible apply Qr.load1); exact rfl; (repeat (first | with_reducible exact In.here | with_reducible apply In.there)); (with_reducible refine dgv_at _ (i := i + k) ?_ ?_); omega; omega)
      | ((with_reducible apply Qr.row1); exact rfl; (repeat (first | with_reducible exact In.here | with_reducible apply In.there)); exact dgv_get _ (by omega))
      | ((with_reducible apply Qr.load1); exact rfl; (repeat (first | with_reducible exact In.here | with_reducible apply In.there)); exact rfl)
      | ((with_reducible apply Qr.loadN); exact rfl; (repeat (first | with_reducible exact In.here | with_reducible apply In.there)); (focus ((try simp only [nl, Nat.reduceAdd, Nat.reduceMul, Int.reduceToNat]); try exact rfl)); (focus (first | (simp only [nl, Nat.reduceAdd, Nat.reduceMul, Int.reduceToNat]; done) | exact rfl)))
      | ((with_reducible apply Qr.row1); exact rfl; (repeat (first | with_reducible exact In.here | with_reducible apply In.there)); exact rfl)
      | ((with_reducible apply Qr.rowN); exact rfl; (repeat (first | with_reducible exact In.here | with_reducible apply In.there)); (focus ((try simp only [nl, Nat.reduceAdd, Nat.reduceMul, Int.reduceToNat]); try exact rfl)); exact rfl)
      | ((with_reducible apply Qr.lenRow); exact rfl; (repeat (first | with_reducible exact In.here | with_reducible apply In.there)))))
    | ((with_reducible apply J.pl1_off); exact rfl; ((with_reducible apply Gd.off); exact rfl; exact rfl; exact rfl); exact rfl)
    | ((with_reducible apply J.pl2); exact rfl; (first | exact Gd.none | ((with_reducible apply Gd.on); exact rfl; exact rfl)); (repeat (first | (with_reducible exact PendF.nil) | ((with_reducible apply PendF.keep); exact rfl) | ((with_reducible apply PendF.gone); exact rfl))); focus (first
      | ((with_reducible apply J.store1); exact rfl; exact rfl; exact rfl; (repeat (first | with_reducible exact Upd.here | with_reducible apply Upd.there)); (with_reducible refine dgv_put (p := i + k) ?_ ?_ ?_); omega; omega; omega; (rw [dgv_length]; omega))
      | ((with_reducible apply J.makeSlice (len := 21)); exact rfl; exact rfl; exact rfl; rfl; rfl; (decide); (decide); intro _)
      | ((with_reducible apply J.allocW); exact rfl; exact rfl; intro _)
      | ((with_reducible apply J.freshAtP (digits _)); exact rfl; exact rfl; (repeat (first | (with_reducible exact Outs.nil) | ((with_reducible apply Outs.cons); (repeat (first | with_reducible exact Out.here | with_reducible apply Out.there))))); (first | with_reducible assumption | (unfold Wd; unfold Wo at hn; omega)); intro _ _)
      | ((with_reducible apply J.keepsP (made_b _ _)); exact rfl; exact rfl; (repeat (first | (with_reducible exact Outs.nil) | ((with_reducible apply Outs.cons); (repeat (first | with_reducible exact Out.here | with_reducible apply Out.there))))); (exact end_hp ha hn (by assumption) (by omega)))
      | ((with_reducible apply J.buildSlice); exact rfl; exact rfl; exact rfl; exact rfl; exact rfl; (simp only [bfill, rep, List.replicate_succ, List.replicate_zero, List.flatten_cons, List.flatten_nil, nl, Nat.reduceAdd, Nat.reduceMul, Int.reduceToNat]; exact rfl); intro _)
      | ((with_reducible apply J.buildSlice0); exact rfl; intro _)
      | ((with_reducible apply J.append); exact rfl; exact rfl; (repeat (first | with_reducible exact Out.here | with_reducible apply Out.there)); exact rfl; (repeat (first | with_reducible exact In.here | with_reducible apply In.there)); (focus ((try simp only [nl, Nat.reduceAdd, Nat.reduceMul, Int.reduceToNat]); try exact rfl)); exact rfl; exact rfl; exact rfl; exact rfl; exact rfl; (first | decide | (simp only [maxLen]; omega) | omega); (first | decide | (simp only [maxLen]; omega) | omega); intro _)
      | ((with_reducible apply J.appendNil); exact rfl; exact rfl; exact rfl; (repeat (first | with_reducible exact In.here | with_reducible apply In.there)); (focus ((try simp only [nl, Nat.reduceAdd, Nat.reduceMul, Int.reduceToNat]); try exact rfl)); exact rfl; exact rfl; exact rfl; exact rfl; exact rfl; (first | decide | (simp only [maxLen]; omega) | omega); (first | decide | (simp only [maxLen]; omega) | omega); intro _)
      | ((with_reducible apply J.boxN); exact rfl; exact rfl; intro _)
      | ((with_reducible apply J.box1); exact rfl; exact rfl; exact rfl; intro _)
      | ((with_reducible apply J.alloc); exact rfl; intro _)
      | ((with_reducible apply J.storeN); exact rfl; exact rfl; (repeat (first | with_reducible exact Upd.here | with_reducible apply Upd.there)); (focus ((try simp only [nl, Nat.reduceAdd, Nat.reduceMul, Int.reduceToNat]); try exact rfl)); (focus (first | (simp only [nl, Nat.reduceAdd, Nat.reduceMul, Int.reduceToNat]; done) | exact rfl)); (focus (first | (simp only [nl, Nat.reduceAdd, Nat.reduceMul, Int.reduceToNat]; done) | (simp only [nl, Nat.reduceAdd, Nat.reduceMul, Int.reduceToNat]; omega) | decide)); (first | (with_reducible exact wvs_ones _ _) | exact rfl))
      | ((with_reducible apply J.store1); exact rfl; exact rfl; exact rfl; (repeat (first | with_reducible exact Upd.here | with_reducible apply Upd.there)); (focus ((try simp only [nl, Nat.reduceAdd, Nat.reduceMul, Int.reduceToNat]); try exact rfl)); (first | decide | (simp only [nl, Nat.reduceAdd, Nat.reduceMul, Int.reduceToNat]; omega)))))
    | ((with_reducible apply J.pl2_off); exact rfl; ((with_reducible apply Gd.off); exact rfl; exact rfl; exact rfl); exact rfl; (repeat (first | (with_reducible exact PendF.nil) | ((with_reducible apply PendF.keep); exact rfl) | ((with_reducible apply PendF.gone); exact rfl))))
    | ((with_reducible apply J.pl2_off_none); exact rfl; ((with_reducible apply Gd.off); exact rfl; exact rfl; exact rfl); (repeat (first | (with_reducible exact PendF.nil) | ((with_reducible apply PendF.keep); exact rfl) | ((with_reducible apply PendF.gone); exact rfl))))
    | (with_reducible apply J.owe_nil)
    | ((with_reducible apply J.owe); exact rfl; (first | exact Gd.none | ((with_reducible apply Gd.on); exact rfl; exact rfl)); focus (first
      | ((with_reducible apply Qr.load1); exact rfl; (repeat (first | with_reducible exact In.here | with_reducible apply In.there)); (with_reducible refine dgv_at _ (i := i + k) ?_ ?_); omega; omega)
      | ((with_reducible apply Qr.row1); exact rfl; (repeat (first | with_reducible exact In.here | with_reducible apply In.there)); exact dgv_get _ (by omega))
      | ((with_reducible apply Qr.load1); exact rfl; (repeat (first | with_reducible exact In.here | with_reducible apply In.there)); exact rfl)
      | ((with_reducible apply Qr.loadN); exact rfl; (repeat (first | with_reducible exact In.here | with_reducible apply In.there)); (focus ((try simp only [nl, Nat.reduceAdd, Nat.reduceMul, Int.reduceToNat]); try exact rfl)); (focus (first | (simp only [nl, Nat.reduceAdd, Nat.reduceMul, Int.reduceToNat]; done) | exact rfl)))
      | ((with_reducible apply Qr.row1); exact rfl; (repeat (first | with_reducible exact In.here | with_reducible apply In.there)); exact rfl)
      | ((with_reducible apply Qr.rowN); exact rfl; (repeat (first | with_reducible exact In.here | with_reducible apply In.there)); (focus ((try simp only [nl, Nat.reduceAdd, Nat.reduceMul, Int.reduceToNat]); try exact rfl)); exact rfl)
      | ((with_reducible apply Qr.lenRow); exact rfl; (repeat (first | with_reducible exact In.here | with_reducible apply In.there)))))
    | ((with_reducible apply J.owe_off); exact rfl; ((with_reducible apply Gd.off); exact rfl; exact rfl; exact rfl))
    | ((with_reducible first | apply J.psplit0 | apply J.psplit1 | apply J.psplit2); exact rfl; exact rfl; exact rfl)
    | (with_reducible apply J.pl_nil)
    | (with_reducible exact J.pl_none)
  any_goals
    apply J.loopI (σ := Nat × Int × Int) (I := fun q => (q.1 ≤ 5 ∧ 0 ≤ q.2.1 ∧ q.2.1 ≤ 65535 ∧ 0 ≤ q.2.2 ∧ q.2.2 + q.2.1 * (65536 ^ (i + q.1) : Nat) = lo a i * n + (sh a i % 65536 * lo n q.1) * (65536 ^ i : Nat))) (L := fun q => [(4, .pointer (some ⟨b4, 0, none⟩)), (5, .bool false), (6, .slice (some ⟨gx, 0, none⟩) 16 cx), (7, .slice (some ⟨gy, 0, none⟩) 16 cy), (8, .slice (some ⟨bo, 0, none⟩) 21 21), (9, .int .i64 (i : Int)), (10, .int .i64 q.2.1), (11, .int .i64 (q.1 : Int))]) (HH := fun q => [Eng.rowAt gx cx 3 1 16 (dgv a 16), Eng.rowAt gy cy 3 1 16 (dgv n 16), blk b4 (wv 0) 32, blk bo (dgv (q.2.2) 21) 3]) (m := fun q => 5 - q.1) (s0 := (0, 0, lo a i * n))
    · ((try dsimp only); (refine ⟨by omega, by omega, by omega, hL i, ?_⟩; simp [lo, Int.emod_one]))
    · ((try dsimp only); repeat (first | exact sub.nil _ | (refine sub.consE rfl ?_ ?_; (first | with_reducible rfl | (fail) | rfl))))
    · ((try dsimp only); (repeat (first | (with_reducible exact Outs.nil) | ((with_reducible apply Outs.cons); (repeat (first | with_reducible exact Out.here | with_reducible apply Out.there))))))
    rintro ⟨k, cc, N⟩ ⟨j1, j2, j3, j4, j5⟩
    try dsimp only at *
    have hp1 := mulD (dig_bd a i) (dig_bd n k)
    repeat' first
      | (with_reducible apply J.seq)
      | (with_reducible apply J.region_lit)
      | (with_reducible apply J.ops_nil)
      | (with_reducible apply J.app_cons)
      | (with_reducible apply J.app_nil)
      | (with_reducible apply J.then_)
      | (with_reducible apply J.blk_)
      | (with_reducible apply J.skip)
      | (with_reducible apply J.block)
      | ((with_reducible apply J.q0); exact rfl; focus (first
        | ((with_reducible apply Qv.buildW); exact rfl; exact rfl; (first | with_reducible assumption | (unfold Wo; omega) | (simp only [Wd, Wo] at *; omega)))
        | ((with_reducible apply Qv.buildW0); exact rfl; exact rfl)
        | ((with_reducible apply Qv.pure); exact rfl)
        | ((with_reducible apply Qv.fieldAddr); exact rfl; (focus ((try simp only [nl, Nat.reduceAdd, Nat.reduceMul, Int.reduceToNat]); try exact rfl)))
        | ((with_reducible first | apply Qv.indexArr | apply Qv.indexBlk | apply Qv.indexN); exact rfl; exact rfl; (first | decide | omega | (constructor <;> omega)); (focus ((try simp only [nl, Nat.reduceAdd, Nat.reduceMul, Int.reduceToNat]); try exact rfl)))
        | ((with_reducible apply Qv.field1); exact rfl; exact rfl)
        | ((with_reducible apply Qv.fieldN); exact rfl; (focus ((try simp only [nl, Nat.reduceAdd, Nat.reduceMul, Int.reduceToNat]); try exact rfl)))
        | ((with_reducible apply Qv.index1); exact rfl; exact rfl; (first | decide | omega | (constructor <;> omega)); exact rfl)
        | ((with_reducible first | apply Qv.add | apply Qv.sub | apply Qv.mul); exact rfl; exact rfl; (first | exact wr64 (by omega) (by omega) (by (try simp only [Int.reduceAdd, Int.reduceSub, Int.reduceMul]); exact rfl) | exact wru64 (by omega) (by omega) (by (try simp only [Int.reduceAdd, Int.reduceSub, Int.reduceMul]); exact rfl) | exact rfl))
        | ((with_reducible apply Qv.conv); exact rfl; (first | exact wr64 (by omega) (by omega) (by (try simp only [Int.reduceAdd, Int.reduceSub, Int.reduceMul]); exact rfl) | exact wru64 (by omega) (by omega) (by (try simp only [Int.reduceAdd, Int.reduceSub, Int.reduceMul]); exact rfl) | exact rfl))
        | ((with_reducible first | apply Qv.eqlB | apply Qv.neqB); exact rfl; exact rfl)
        | ((with_reducible first | apply Qv.buildA | apply Qv.buildS); exact rfl; (simp only [bfill, nl, Nat.reduceAdd, Nat.reduceMul, Int.reduceToNat]; exact rfl))
        | ((with_reducible apply Qv.quoP); exact rfl; exact rfl; (first | decide | omega); (omega); (first | exact wr64 (by omega) (by omega) rfl | exact wru64 (by omega) (by omega) rfl))
        | ((with_reducible apply Qv.remP); exact rfl; exact rfl; (first | decide | omega); omega)
        | ((with_reducible apply Qv.rem); exact rfl; exact rfl; (first | decide | omega); exact rfl)
        | ((with_reducible apply Qv.quo); exact rfl; exact rfl; (first | decide | omega); (first | exact wr64 (by omega) (by omega) (by (try simp only [Int.reduceAdd, Int.reduceSub, Int.reduceMul]); exact rfl) | exact wru64 (by omega) (by omega) (by (try simp only [Int.reduceAdd, Int.reduceSub, Int.reduceMul]); exact rfl) | exact rfl))
        | ((with_reducible apply Qv.shl); exact rfl; exact rfl; (first | decide | omega); (first | (first | exact wr64 (by omega) (by omega) (by (try simp only [Int.reduceAdd, Int.reduceSub, Int.reduceMul]); exact rfl) | exact wru64 (by omega) (by omega) (by (try simp only [Int.reduceAdd, Int.reduceSub, Int.reduceMul]); exact rfl) | exact rfl) | exact rfl))
        | ((with_reducible apply Qv.shr); exact rfl; exact rfl; (first | decide | omega); exact rfl)
        | ((with_reducible apply Qv.lenS); exact rfl)
        | ((with_reducible apply Qv.lenStr); exact rfl)
        | ((with_reducible apply Qv.capS); exact rfl)
        | ((with_reducible apply Qv.max); exact rfl; exact rfl)
        | ((with_reducible apply Qv.min); exact rfl; exact rfl)))
      | ((with_reducible apply J.q1); exact rfl; focus (first
        | ((with_reducible apply Qr.load1); exact rfl; (repeat (first | with_reducible exact In.here | with_reducible apply In.there)); (with_reducible refine dgv_at _ (i := i + k) ?_ ?_); omega; omega)
        | ((with_reducible apply Qr.row1); exact rfl; (repeat (first | with_reducible exact In.here | with_reducible apply In.there)); exact dgv_get _ (by omega))
        | ((with_reducible apply Qr.load1); exact rfl; (repeat (first | with_reducible exact In.here | with_reducible apply In.there)); exact rfl)
        | ((with_reducible apply Qr.loadN); exact rfl; (repeat (first | with_reducible exact In.here | with_reducible apply In.there)); (focus ((try simp only [nl, Nat.reduceAdd, Nat.reduceMul, Int.reduceToNat]); try exact rfl)); (focus (first | (simp only [nl, Nat.reduceAdd, Nat.reduceMul, Int.reduceToNat]; done) | exact rfl)))
        | ((with_reducible apply Qr.row1); exact rfl; (repeat (first | with_reducible exact In.here | with_reducible apply In.there)); exact rfl)
        | ((with_reducible apply Qr.rowN); exact rfl; (repeat (first | with_reducible exact In.here | with_reducible apply In.there)); (focus ((try simp only [nl, Nat.reduceAdd, Nat.reduceMul, Int.reduceToNat]); try exact rfl)); exact rfl)
        | ((with_reducible apply Qr.lenRow); exact rfl; (repeat (first | with_reducible exact In.here | with_reducible apply In.there)))))
      | ((with_reducible apply J.guard_on); exact rfl; exact rfl)
      | ((with_reducible apply J.guard_off); exact rfl; exact rfl; exact rfl; exact rfl)
      | ((with_reducible apply J.guard_off_none); exact rfl; exact rfl; exact rfl)
      | ((with_reducible apply J.gsplit); exact rfl; exact rfl)
      | ((with_reducible apply J.list); focus (first
        | ((with_reducible apply J.store1); exact rfl; exact rfl; exact rfl; (repeat (first | with_reducible exact Upd.here | with_reducible apply Upd.there)); (with_reducible refine dgv_put (p := i + k) ?_ ?_ ?_); omega; omega; omega; (rw [dgv_length]; omega))
        | ((with_reducible apply J.makeSlice (len := 21)); exact rfl; exact rfl; exact rfl; rfl; rfl; (decide); (decide); intro _)
        | ((with_reducible apply J.allocW); exact rfl; exact rfl; intro _)
        | ((with_reducible apply J.freshAtP (digits _)); exact rfl; exact rfl; (repeat (first | (with_reducible exact Outs.nil) | ((with_reducible apply Outs.cons); (repeat (first | with_reducible exact Out.here | with_reducible apply Out.there))))); (first | with_reducible assumption | (unfold Wd; unfold Wo at hn; omega)); intro _ _)
        | ((with_reducible apply J.keepsP (made_b _ _)); exact rfl; exact rfl; (repeat (first | (with_reducible exact Outs.nil) | ((with_reducible apply Outs.cons); (repeat (first | with_reducible exact Out.here | with_reducible apply Out.there))))); (exact end_hp ha hn (by assumption) (by omega)))
        | ((with_reducible apply J.buildSlice); exact rfl; exact rfl; exact rfl; exact rfl; exact rfl; (simp only [bfill, rep, List.replicate_succ, List.replicate_zero, List.flatten_cons, List.flatten_nil, nl, Nat.reduceAdd, Nat.reduceMul, Int.reduceToNat]; exact rfl); intro _)
        | ((with_reducible apply J.buildSlice0); exact rfl; intro _)
        | ((with_reducible apply J.append); exact rfl; exact rfl; (repeat (first | with_reducible exact Out.here | with_reducible apply Out.there)); exact rfl; (repeat (first | with_reducible exact In.here | with_reducible apply In.there)); (focus ((try simp only [nl, Nat.reduceAdd, Nat.reduceMul, Int.reduceToNat]); try exact rfl)); exact rfl; exact rfl; exact rfl; exact rfl; exact rfl; (first | decide | (simp only [maxLen]; omega) | omega); (first | decide | (simp only [maxLen]; omega) | omega); intro _)
        | ((with_reducible apply J.appendNil); exact rfl; exact rfl; exact rfl; (repeat (first | with_reducible exact In.here | with_reducible apply In.there)); (focus ((try simp only [nl, Nat.reduceAdd, Nat.reduceMul, Int.reduceToNat]); try exact rfl)); exact rfl; exact rfl; exact rfl; exact rfl; exact rfl; (first | decide | (simp only [maxLen]; omega) | omega); (first | decide | (simp only [maxLen]; omega) | omega); intro _)
        | ((with_reducible apply J.boxN); exact rfl; exact rfl; intro _)
        | ((with_reducible apply J.box1); exact rfl; exact rfl; exact rfl; intro _)
        | ((with_reducible apply J.alloc); exact rfl; intro _)
        | ((with_reducible apply J.storeN); exact rfl; exact rfl; (repeat (first | with_reducible exact Upd.here | with_reducible apply Upd.there)); (focus ((try simp only [nl, Nat.reduceAdd, Nat.reduceMul, Int.reduceToNat]); try exact rfl)); (focus (first | (simp only [nl, Nat.reduceAdd, Nat.reduceMul, Int.reduceToNat]; done) | exact rfl)); (focus (first | (simp only [nl, Nat.reduceAdd, Nat.reduceMul, Int.reduceToNat]; done) | (simp only [nl, Nat.reduceAdd, Nat.reduceMul, Int.reduceToNat]; omega) | decide)); (first | (with_reducible exact wvs_ones _ _) | exact rfl))
        | ((with_reducible apply J.store1); exact rfl; exact rfl; exact rfl; (repeat (first | with_reducible exact Upd.here | with_reducible apply Upd.there)); (focus ((try simp only [nl, Nat.reduceAdd, Nat.reduceMul, Int.reduceToNat]); try exact rfl)); (first | decide | (simp only [nl, Nat.reduceAdd, Nat.reduceMul, Int.reduceToNat]; omega)))))
      | ((with_reducible apply J.cond_true); exact rfl)
      | ((with_reducible apply J.cond_false); exact rfl)
      | ((with_reducible apply J.cond); exact rfl)
      | (intro h; exfalso; (first | (simp at h; done) | omega))
      | (intro h; (try simp only [decide_eq_true_eq, decide_eq_false_iff_not, beq_iff_eq, beq_eq_false_iff_ne, Bool.not_eq_true', Bool.not_eq_false', bne_iff_ne, bne_eq_false_iff_eq, ne_eq, ge_iff_le, gt_iff_lt] at h))
      | (with_reducible apply J.cret)
      | ((with_reducible apply J.ret); exact rfl; exact rfl; (repeat (first | (with_reducible exact Res.nil) | ((with_reducible apply Res.tmp); exact rfl) | ((with_reducible apply Res.cell1); exact rfl; (repeat (first | with_reducible exact In.here | with_reducible apply In.there)); exact rfl) | ((with_reducible apply Res.cellN); exact rfl; (repeat (first | with_reducible exact In.here | with_reducible apply In.there)); (focus ((try simp only [nl, Nat.reduceAdd, Nat.reduceMul, Int.reduceToNat]); try exact rfl)); (focus (first | (simp only [nl, Nat.reduceAdd, Nat.reduceMul, Int.reduceToNat]; done) | exact rfl))))); exact rfl)
      | ((with_reducible apply J.ret_normal); exact rfl; exact rfl; (repeat (first | (with_reducible exact Res.nil) | ((with_reducible apply Res.tmp); exact rfl) | ((with_reducible apply Res.cell1); exact rfl; (repeat (first | with_reducible exact In.here | with_reducible apply In.there)); exact rfl) | ((with_reducible apply Res.cellN); exact rfl; (repeat (first | with_reducible exact In.here | with_reducible apply In.there)); (focus ((try simp only [nl, Nat.reduceAdd, Nat.reduceMul, Int.reduceToNat]); try exact rfl)); (focus (first | (simp only [nl, Nat.reduceAdd, Nat.reduceMul, Int.reduceToNat]; done) | exact rfl))))); exact rfl)
      | (with_reducible apply J.gave')
      | ((with_reducible apply J.kept'); rotate_left; (repeat (first | (with_reducible exact Outs.nil) | ((with_reducible apply Outs.cons); (repeat (first | with_reducible exact Out.here | with_reducible apply Out.there))))))
      | (with_reducible apply J.exit)
      | (with_reducible apply J.then_ret)
      | (with_reducible apply J.then_exit)
      | (with_reducible apply J.then_panic)
      | (with_reducible apply J.blk_ret)
      | (with_reducible apply J.blk_panic)
      | (with_reducible apply J.blk_exit)
      | ((with_reducible apply J.blk_past); exact rfl)
      | ((with_reducible apply J.draw (id := 13) [0, 0, 0, 0, 12, 30, 62, 127, 0, 0, 768, 1792, 0, 7936, 16383, 32767] (.p 0 (.p 1 (.p 2 (.p 3 (.p 4 (.p 5 (.q 6 (.p 7 (.p 8 (.p 9 (.p 10 (.q 11 (.p 12 (.p 13 (.p 14 (.p 15 .nil)))))))))))))))) (by kernel_rfl) ?_ (by kernel_rfl) ?_); (repeat (with_reducible first | exact PanicFree.body | apply PanicFree.then_ | apply PanicFree.blk)))
      | ((with_reducible apply J.pl0); exact rfl; (first | exact Gd.none | ((with_reducible apply Gd.on); exact rfl; exact rfl)); exact rfl; focus (first
        | ((with_reducible apply Qv.buildW); exact rfl; exact rfl; (first | with_reducible assumption | (unfold Wo; omega) | (simp only [Wd, Wo] at *; omega)))
        | ((with_reducible apply Qv.buildW0); exact rfl; exact rfl)
        | ((with_reducible apply Qv.pure); exact rfl)
        | ((with_reducible apply Qv.fieldAddr); exact rfl; (focus ((try simp only [nl, Nat.reduceAdd, Nat.reduceMul, Int.reduceToNat]); try exact rfl)))
        | ((with_reducible first | apply Qv.indexArr | apply Qv.indexBlk | apply Qv.indexN); exact rfl; exact rfl; (first | decide | omega | (constructor <;> omega)); (focus ((try simp only [nl, Nat.reduceAdd, Nat.reduceMul, Int.reduceToNat]); try exact rfl)))
        | ((with_reducible apply Qv.field1); exact rfl; exact rfl)
        | ((with_reducible apply Qv.fieldN); exact rfl; (focus ((try simp only [nl, Nat.reduceAdd, Nat.reduceMul, Int.reduceToNat]); try exact rfl)))
        | ((with_reducible apply Qv.index1); exact rfl; exact rfl; (first | decide | omega | (constructor <;> omega)); exact rfl)
        | ((with_reducible first | apply Qv.add | apply Qv.sub | apply Qv.mul); exact rfl; exact rfl; (first | exact wr64 (by omega) (by omega) (by (try simp only [Int.reduceAdd, Int.reduceSub, Int.reduceMul]); exact rfl) | exact wru64 (by omega) (by omega) (by (try simp only [Int.reduceAdd, Int.reduceSub, Int.reduceMul]); exact rfl) | exact rfl))
        | ((with_reducible apply Qv.conv); exact rfl; (first | exact wr64 (by omega) (by omega) (by (try simp only [Int.reduceAdd, Int.reduceSub, Int.reduceMul]); exact rfl) | exact wru64 (by omega) (by omega) (by (try simp only [Int.reduceAdd, Int.reduceSub, Int.reduceMul]); exact rfl) | exact rfl))
        | ((with_reducible first | apply Qv.eqlB | apply Qv.neqB); exact rfl; exact rfl)
        | ((with_reducible first | apply Qv.buildA | apply Qv.buildS); exact rfl; (simp only [bfill, nl, Nat.reduceAdd, Nat.reduceMul, Int.reduceToNat]; exact rfl))
        | ((with_reducible apply Qv.quoP); exact rfl; exact rfl; (first | decide | omega); (omega); (first | exact wr64 (by omega) (by omega) rfl | exact wru64 (by omega) (by omega) rfl))
        | ((with_reducible apply Qv.remP); exact rfl; exact rfl; (first | decide | omega); omega)
        | ((with_reducible apply Qv.rem); exact rfl; exact rfl; (first | decide | omega); exact rfl)
        | ((with_reducible apply Qv.quo); exact rfl; exact rfl; (first | decide | omega); (first | exact wr64 (by omega) (by omega) (by (try simp only [Int.reduceAdd, Int.reduceSub, Int.reduceMul]); exact rfl) | exact wru64 (by omega) (by omega) (by (try simp only [Int.reduceAdd, Int.reduceSub, Int.reduceMul]); exact rfl) | exact rfl))
        | ((with_reducible apply Qv.shl); exact rfl; exact rfl; (first | decide | omega); (first | (first | exact wr64 (by omega) (by omega) (by (try simp only [Int.reduceAdd, Int.reduceSub, Int.reduceMul]); exact rfl) | exact wru64 (by omega) (by omega) (by (try simp only [Int.reduceAdd, Int.reduceSub, Int.reduceMul]); exact rfl) | exact rfl) | exact rfl))
        | ((with_reducible apply Qv.shr); exact rfl; exact rfl; (first | decide | omega); exact rfl)
        | ((with_reducible apply Qv.lenS); exact rfl)
        | ((with_reducible apply Qv.lenStr); exact rfl)
        | ((with_reducible apply Qv.capS); exact rfl)
        | ((with_reducible apply Qv.max); exact rfl; exact rfl)
        | ((with_reducible apply Qv.min); exact rfl; exact rfl)))
      | ((with_reducible apply J.pl0_off); exact rfl; ((with_reducible apply Gd.off); exact rfl; exact rfl; exact rfl); exact rfl)
      | ((with_reducible apply J.pl1); exact rfl; (first | exact Gd.none | ((with_reducible apply Gd.on); exact rfl; exact rfl)); exact rfl; focus (first
        | ((with_reducible apply Qr.load1); exact rfl; (repeat (first | with_reducible exact In.here | with_reducible apply In.there)); (with_reducible refine dgv_at _ (i := i + k) ?_ ?_); omega; omega)
        | ((with_reducible apply Qr.row1); exact rfl; (repeat (first | with_reducible exact In.here | with_reducible apply In.there)); exact dgv_get _ (by omega))
        | ((with_reducible apply Qr.load1); exact rfl; (repeat (first | with_reducible exact In.here | with_reducible apply In.there)); exact rfl)
        | ((with_reducible apply Qr.loadN); exact rfl; (repeat (first | with_reducible exact In.here | with_reducible apply In.there)); (focus ((try simp only [nl, Nat.reduceAdd, Nat.reduceMul, Int.reduceToNat]); try exact rfl)); (focus (first | (simp only [nl, Nat.reduceAdd, Nat.reduceMul, Int.reduceToNat]; done) | exact rfl)))
        | ((with_reducible apply Qr.row1); exact rfl; (repeat (first | with_reducible exact In.here | with_reducible apply In.there)); exact rfl)
        | ((with_reducible apply Qr.rowN); exact rfl; (repeat (first | with_reducible exact In.here | with_reducible apply In.there)); (focus ((try simp only [nl, Nat.reduceAdd, Nat.reduceMul, Int.reduceToNat]); try exact rfl)); exact rfl)
        | ((with_reducible apply Qr.lenRow); exact rfl; (repeat (first | with_reducible exact In.here | with_reducible apply In.there)))))
      | ((with_reducible apply J.pl1_off); exact rfl; ((with_reducible apply Gd.off); exact rfl; exact rfl; exact rfl); exact rfl)
      | ((with_reducible apply J.pl2); exact rfl; (first | exact Gd.none | ((with_reducible apply Gd.on); exact rfl; exact rfl)); (repeat (first | (with_reducible exact PendF.nil) | ((with_reducible apply PendF.keep); exact rfl) | ((with_reducible apply PendF.gone); exact rfl))); focus (first
        | ((with_reducible apply J.store1); exact rfl; exact rfl; exact rfl; (repeat (first | with_reducible exact Upd.here | with_reducible apply Upd.there)); (with_reducible refine dgv_put (p := i + k) ?_ ?_ ?_); omega; omega; omega; (rw [dgv_length]; omega))
        | ((with_reducible apply J.makeSlice (len := 21)); exact rfl; exact rfl; exact rfl; rfl; rfl; (decide); (decide); intro _)
        | ((with_reducible apply J.allocW); exact rfl; exact rfl; intro _)
        | ((with_reducible apply J.freshAtP (digits _)); exact rfl; exact rfl; (repeat (first | (with_reducible exact Outs.nil) | ((with_reducible apply Outs.cons); (repeat (first | with_reducible exact Out.here | with_reducible apply Out.there))))); (first | with_reducible assumption | (unfold Wd; unfold Wo at hn; omega)); intro _ _)
        | ((with_reducible apply J.keepsP (made_b _ _)); exact rfl; exact rfl; (repeat (first | (with_reducible exact Outs.nil) | ((with_reducible apply Outs.cons); (repeat (first | with_reducible exact Out.here | with_reducible apply Out.there))))); (exact end_hp ha hn (by assumption) (by omega)))
        | ((with_reducible apply J.buildSlice); exact rfl; exact rfl; exact rfl; exact rfl; exact rfl; (simp only [bfill, rep, List.replicate_succ, List.replicate_zero, List.flatten_cons, List.flatten_nil, nl, Nat.reduceAdd, Nat.reduceMul, Int.reduceToNat]; exact rfl); intro _)
        | ((with_reducible apply J.buildSlice0); exact rfl; intro _)
        | ((with_reducible apply J.append); exact rfl; exact rfl; (repeat (first | with_reducible exact Out.here | with_reducible apply Out.there)); exact rfl; (repeat (first | with_reducible exact In.here | with_reducible apply In.there)); (focus ((try simp only [nl, Nat.reduceAdd, Nat.reduceMul, Int.reduceToNat]); try exact rfl)); exact rfl; exact rfl; exact rfl; exact rfl; exact rfl; (first | decide | (simp only [maxLen]; omega) | omega); (first | decide | (simp only [maxLen]; omega) | omega); intro _)
        | ((with_reducible apply J.appendNil); exact rfl; exact rfl; exact rfl; (repeat (first | with_reducible exact In.here | with_reducible apply In.there)); (focus ((try simp only [nl, Nat.reduceAdd, Nat.reduceMul, Int.reduceToNat]); try exact rfl)); exact rfl; exact rfl; exact rfl; exact rfl; exact rfl; (first | decide | (simp only [maxLen]; omega) | omega); (first | decide | (simp only [maxLen]; omega) | omega); intro _)
        | ((with_reducible apply J.boxN); exact rfl; exact rfl; intro _)
        | ((with_reducible apply J.box1); exact rfl; exact rfl; exact rfl; intro _)
        | ((with_reducible apply J.alloc); exact rfl; intro _)
        | ((with_reducible apply J.storeN); exact rfl; exact rfl; (repeat (first | with_reducible exact Upd.here | with_reducible apply Upd.there)); (focus ((try simp only [nl, Nat.reduceAdd, Nat.reduceMul, Int.reduceToNat]); try exact rfl)); (focus (first | (simp only [nl, Nat.reduceAdd, Nat.reduceMul, Int.reduceToNat]; done) | exact rfl)); (focus (first | (simp only [nl, Nat.reduceAdd, Nat.reduceMul, Int.reduceToNat]; done) | (simp only [nl, Nat.reduceAdd, Nat.reduceMul, Int.reduceToNat]; omega) | decide)); (first | (with_reducible exact wvs_ones _ _) | exact rfl))
        | ((with_reducible apply J.store1); exact rfl; exact rfl; exact rfl; (repeat (first | with_reducible exact Upd.here | with_reducible apply Upd.there)); (focus ((try simp only [nl, Nat.reduceAdd, Nat.reduceMul, Int.reduceToNat]); try exact rfl)); (first | decide | (simp only [nl, Nat.reduceAdd, Nat.reduceMul, Int.reduceToNat]; omega)))))
      | ((with_reducible apply J.pl2_off); exact rfl; ((with_reducible apply Gd.off); exact rfl; exact rfl; exact rfl); exact rfl; (repeat (first | (with_reducible exact PendF.nil) | ((with_reducible apply PendF.keep); exact rfl) | ((with_reducible apply PendF.gone); exact rfl))))
      | ((with_reducible apply J.pl2_off_none); exact rfl; ((with_reducible apply Gd.off); exact rfl; exact rfl; exact rfl); (repeat (first | (with_reducible exact PendF.nil) | ((with_reducible apply PendF.keep); exact rfl) | ((with_reducible apply PendF.gone); exact rfl))))
      | (with_reducible apply J.owe_nil)
      | ((with_reducible apply J.owe); exact rfl; (first | exact Gd.none | ((with_reducible apply Gd.on); exact rfl; exact rfl)); focus (first
        | ((with_reducible apply Qr.load1); exact rfl; (repeat (first | with_reducible exact In.here | with_reducible apply In.there)); (with_reducible refine dgv_at _ (i := i + k) ?_ ?_); omega; omega)
        | ((with_reducible apply Qr.row1); exact rfl; (repeat (first | with_reducible exact In.here | with_reducible apply In.there)); exact dgv_get _ (by omega))
        | ((with_reducible apply Qr.load1); exact rfl; (repeat (first | with_reducible exact In.here | with_reducible apply In.there)); exact rfl)
        | ((with_reducible apply Qr.loadN); exact rfl; (repeat (first | with_reducible exact In.here | with_reducible apply In.there)); (focus ((try simp only [nl, Nat.reduceAdd, Nat.reduceMul, Int.reduceToNat]); try exact rfl)); (focus (first | (simp only [nl, Nat.reduceAdd, Nat.reduceMul, Int.reduceToNat]; done) | exact rfl)))
        | ((with_reducible apply Qr.row1); exact rfl; (repeat (first | with_reducible exact In.here | with_reducible apply In.there)); exact rfl)
        | ((with_reducible apply Qr.rowN); exact rfl; (repeat (first | with_reducible exact In.here | with_reducible apply In.there)); (focus ((try simp only [nl, Nat.reduceAdd, Nat.reduceMul, Int.reduceToNat]); try exact rfl)); exact rfl)
        | ((with_reducible apply Qr.lenRow); exact rfl; (repeat (first | with_reducible exact In.here | with_reducible apply In.there)))))
      | ((with_reducible apply J.owe_off); exact rfl; ((with_reducible apply Gd.off); exact rfl; exact rfl; exact rfl))
      | ((with_reducible first | apply J.psplit0 | apply J.psplit1 | apply J.psplit2); exact rfl; exact rfl; exact rfl)
      | (with_reducible apply J.pl_nil)
      | (with_reducible exact J.pl_none)
  all_goals
    first
    | (exfalso; omega)
    | (have e0 : i = 16 := by omega
       subst e0
       have e1 : lo a 16 = a := by unfold lo; unfold Wd at ha; exact Int.emod_eq_of_lt ha.1 ha.2
       simp only [retv, e1, wmul]
       done)
    | (have e0 : k = 5 := by omega
       subst e0
       obtain ⟨m1, m2⟩ := inner_end (by unfold Wo at hn; exact hn) j5 j4 j2
       subst m1
       subst m2
       (apply J.againI (s := i) (s' := (i + 1)); (focus (omega)); (focus ((try dsimp only); omega)); (focus (((try dsimp only); repeat (first | exact sub.nil _ | (refine sub.consE rfl ?_ ?_; (first | with_reducible rfl | ((congr 1; omega)) | rfl)))))); ((try dsimp only); (repeat (first | (with_reducible exact Outs.nil) | ((with_reducible apply Outs.cons); (repeat (first | with_reducible exact Out.here | with_reducible apply Out.there))))))))
    | (have e0 : k = 4 := by omega
       subst e0
       have e1 : sh n 4 = 0 := by rw [sh_eq]; unfold Wo at hn; exact Int.ediv_eq_zero_of_lt hn.1 hn.2
       obtain ⟨m1, m2, m3⟩ := inner_step (d := sh n 4 % 65536) j5 ⟨j2, j3⟩ (dig_bd a i) (dig_bd n 4)
       have m4 := set_nonneg (p := i + 4) (e := (cc + sh N (i + 4) % 65536 + sh a i % 65536 * (sh n 4 % 65536)) % 65536) j4 (by omega)
       rw [← lo_s] at m1
       have e2 : sh n 4 % 65536 = 0 := by rw [e1]; rfl
       rw [e2] at m1 m2 m3 m4
       (apply J.againI (s := (4, cc, N)) (s' := (4 + 1, (cc + sh N (i + 4) % 65536 + sh a i % 65536 * 0) / 65536, N + ((cc + sh N (i + 4) % 65536 + sh a i % 65536 * 0) % 65536 - sh N (i + 4) % 65536) * (65536 ^ (i + 4) : Nat))); (focus (((try simp only) <;> omega))); (focus ((try dsimp only); (exact ⟨by omega, m2, m3, m4, m1⟩))); (focus (((try dsimp only); repeat (first | exact sub.nil _ | (refine sub.consE rfl ?_ ?_; (first | with_reducible rfl | ((congr 1; omega)) | rfl)))))); ((try dsimp only); (repeat (first | (with_reducible exact Outs.nil) | ((with_reducible apply Outs.cons); (repeat (first | with_reducible exact Out.here | with_reducible apply Out.there))))))))
    | (obtain ⟨m1, m2, m3⟩ := inner_step j5 ⟨j2, j3⟩ (dig_bd a i) (dig_bd n k)
       have m4 := set_nonneg (p := i + k) (e := (cc + sh N (i + k) % 65536 + sh a i % 65536 * (sh n k % 65536)) % 65536) j4 (by omega)
       rw [← lo_s] at m1
       (apply J.againI (s := (k, cc, N)) (s' := (k + 1, (cc + sh N (i + k) % 65536 + sh a i % 65536 * (sh n k % 65536)) / 65536, N + ((cc + sh N (i + k) % 65536 + sh a i % 65536 * (sh n k % 65536)) % 65536 - sh N (i + k) % 65536) * (65536 ^ (i + k) : Nat))); (focus (((try simp only) <;> omega))); (focus ((try dsimp only); (exact ⟨by omega, m2, m3, m4, m1⟩))); (focus (((try dsimp only); repeat (first | exact sub.nil _ | (refine sub.consE rfl ?_ ?_; (first | with_reducible rfl | ((congr 1; omega)) | rfl)))))); ((try dsimp only); (repeat (first | (with_reducible exact Outs.nil) | ((with_reducible apply Outs.cons); (repeat (first | with_reducible exact Out.here | with_reducible apply Out.there))))))))
    | (trace_state; fail)
end Go.Proofs.Ytnbckkpflmpnlaa.MulR
