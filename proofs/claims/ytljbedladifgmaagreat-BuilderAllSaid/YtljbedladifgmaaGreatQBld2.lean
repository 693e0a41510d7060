/-
  In which order transactions can be included: the walks. No conditions.
-/
import Derived.Test.YtljbedladifgmaaGreatQTx
import Derived.Test.YtljbedladifgmaaGreatQSco
import Derived.Test.YtljbedladifgmaaGreatQIter
namespace Go.Proofs.YtljbedladifgmaaGreat.Bld
open Go Go.RowKit Eng
set_option linter.unusedVariables false
set_option maxRecDepth 100000
set_option linter.unusedSimpArgs false
open Wide Tx
set_option maxHeartbeats 2000000
abbrev nv (ns : Nat → Int) : List Value := tab (fun j => .int .i64 (ns j)) 8
/-- Is it its sender's next one? -/
def rdy (ns : Nat → Int) (t : Tx) : Bool := decide (chk t = 0) && decide (t.no = ns t.fr.toNat)
/-- Places. -/
def iv (o : List Nat) : List Value := o.map fun (i : Nat) => .int .i64 (i : Int)
theorem iv_length (o : List Nat) : (iv o).length = o.length := List.length_map ..
theorem iv_at {o : List Nat} {i : Nat} (h : i < o.length) : (((iv o).drop (i * 1)).take 1)[0]? = some (.int .i64 (o.getD i 0 : Nat)) := by
  rw [List.getElem?_take, if_pos (by omega), List.getElem?_drop]
  simp [iv, h]
theorem iv_add (o : List Nat) (i : Nat) : iv o ++ [.int .i64 (i : Int)] = iv (o ++ [i]) := by simp [iv]
/-- The first of which p holds; -1: none. -/
def fst (p : Nat → Bool) : Nat → Int
  | 0 => -1
  | n + 1 => if 0 ≤ fst p n then fst p n else if p n = true then (n : Int) else -1
theorem fst_none {p : Nat → Bool} : ∀ {n : Nat}, (∀ j, j < n → p j = false) → fst p n = -1
  | 0, _ => rfl
  | n + 1, h => by
    rw [fst, fst_none (n := n) fun j hj => h j (by omega), if_neg (by omega), h n (by omega)]
    rfl
theorem fst_some {p : Nat → Bool} : ∀ {n i : Nat}, i < n → p i = true → (∀ j, j < i → p j = false) → fst p n = (i : Int)
  | 0, i, h, _, _ => by omega
  | n + 1, i, h, h1, h2 => by
    rcases Nat.lt_or_ge i n with h3 | h3
    · rw [fst, fst_some h3 h1 h2, if_pos (by omega)]
    · have e : i = n := by omega
      subst e
      rw [fst, fst_none h2, if_neg (by omega), if_pos h1]
theorem fst_cases (p : Nat → Bool) : ∀ n : Nat, (fst p n = -1 ∧ ∀ j, j < n → p j = false) ∨ ∃ i, i < n ∧ fst p n = (i : Int) ∧ p i = true ∧ ∀ j, j < i → p j = false
  | 0 => .inl ⟨rfl, fun j hj => by omega⟩
  | n + 1 => by
    rcases fst_cases p n with ⟨h1, h2⟩ | ⟨i, h1, h2, h3, h4⟩
    · cases h5 : p n with
      | true => exact .inr ⟨n, by omega, fst_some (by omega) h5 h2, h5, h2⟩
      | false =>
        have h6 : ∀ j, j < n + 1 → p j = false := fun j hj => by
          rcases Nat.lt_or_ge j n with h7 | h7
          · exact h2 j h7
          · have e : j = n := by omega
            subst e; exact h5
        exact .inl ⟨fst_none h6, h6⟩
    · exact .inr ⟨i, by omega, fst_some (by omega) h3 h4, h3, h4⟩
theorem below_succ {p : Nat → Prop} {i : Nat} (h : ∀ j, j < i → p j) (hi : p i) : ∀ j, j < i + 1 → p j := fun j hj => by
  rcases Nat.lt_or_ge j i with h1 | h1
  · exact h j h1
  · have e : j = i := by omega
    subst e; exact hi
def eqo (o : List Nat) (x : Nat) (j : Nat) : Bool := decide (o.getD j 0 = x)
def ixo (o : List Nat) (x : Nat) : Int := fst (eqo o x) o.length
theorem ixo_in (o : List Nat) (x : Nat) : decide (ixo o x ≥ 0) = o.contains x := by
  rw [Bool.eq_iff_iff, decide_eq_true_eq, List.contains_iff_mem, List.mem_iff_getElem]
  unfold ixo
  rcases fst_cases (eqo o x) o.length with ⟨h1, h2⟩ | ⟨i, h1, h2, h3, h4⟩
  · rw [h1]
    constructor
    · intro h; omega
    · rintro ⟨j, hj, e⟩
      have := h2 j hj
      simp [eqo, hj, e] at this
  · rw [h2]
    refine ⟨fun _ => ⟨i, h1, ?_⟩, fun _ => by omega⟩
    simpa [eqo, h1] using h3
/-- As many as can be, one behind the other. -/
def bump (ns : Nat → Int) (k : Nat) : Nat → Int := fun j => if j = k then ns k + 1 else ns j
def nxt (T : Nat → Tx) (ns : Nat → Int) (o : List Nat) (i : Nat) : Bool := rdy ns (T i) && !o.contains i
def run (T : Nat → Tx) (n : Nat) : Nat → (Nat → Int) → List Nat → List Nat
  | 0, _, o => o
  | k + 1, ns, o => if fst (nxt T ns o) n < 0 then o else run T n k (bump ns (T (fst (nxt T ns o) n).toNat).fr.toNat) (o ++ [(fst (nxt T ns o) n).toNat])
theorem run_none {T : Nat → Tx} {n k : Nat} {ns : Nat → Int} {o : List Nat} (h : ∀ j, j < n → nxt T ns o j = false) : run T n k ns o = o := by
  cases k with
  | zero => rfl
  | succ k => rw [run, fst_none h, if_pos (by omega)]
theorem run_some {T : Nat → Tx} {n k i : Nat} {ns : Nat → Int} {o : List Nat} (hi : i < n) (h1 : nxt T ns o i = true) (h : ∀ j, j < i → nxt T ns o j = false) : run T n (k + 1) ns o = run T n k (bump ns (T i).fr.toNat) (o ++ [i]) := by
  rw [run, fst_some hi h1 h, if_neg (by omega), Int.toNat_natCast]
theorem run_len {T : Nat → Tx} {n : Nat} : ∀ {k : Nat} {ns : Nat → Int} {o : List Nat}, (run T n k ns o).length ≤ o.length + k
  | 0, _, o => Nat.le_refl _
  | k + 1, ns, o => by
    rw [run]
    split
    · omega
    · have := run_len (T := T) (n := n) (k := k) (ns := bump ns (T (fst (nxt T ns o) n).toNat).fr.toNat) (o := o ++ [(fst (nxt T ns o) n).toNat])
      simp only [List.length_append, List.length_cons, List.length_nil] at this
      omega
/-- The others. -/
def rst (o : List Nat) : Nat → List Nat
  | 0 => []
  | n + 1 => if o.contains n = true then rst o n else rst o n ++ [n]
theorem rst_len {o : List Nat} : ∀ n, (rst o n).length ≤ n
  | 0 => Nat.le_refl _
  | n + 1 => by
    have := rst_len (o := o) n
    rw [rst]
    split
    · omega
    · rw [List.length_append]; simp; omega
theorem bump_put {ns : Nat → Int} {k : Nat} {v : Value} (hv : v = .int .i64 (ns k + 1)) : tab (fun j => if j = k then v else .int .i64 (ns j)) 8 = nv (bump ns k) := by
  subst hv
  refine tab_same fun j _ => ?_
  unfold bump
  split <;> rfl
theorem chk_no {t : Tx} (h : chk t = 0) : 0 ≤ t.no ∧ t.no ≤ 1099511627776 := by
  unfold chk at h
  split at h
  · omega
  · split at h
    · omega
    · rename_i h1 h2
      simp only [not_or, Bool.not_eq_false] at h2
      have := h2.2.1
      unfold inB at this
      simpa using this
theorem rdy_of {ns : Nat → Int} {t : Tx} (h : rdy ns t = true) : chk t = 0 ∧ t.no = ns t.fr.toNat := by simpa [rdy] using h

theorem index (A : Asrt) (ao : Option Addr) (cap : Nat) (o : List Nat) (x : Nat) (h : o.length ≤ 1000000 ∧ Srcs A ao 1 o.length (fun i => ((iv o).drop (i * 1)).take 1)) (w : World) : CSpec Tryz.prog 108 [.slice ao o.length cap, .int .i64 (x : Int)] [A] w (Keeps (.int .i64 (ixo o x)) [A]) := by
  obtain ⟨hl, hS⟩ := h
  refine spec_of Tryz.func108 rfl Tryz.ntmps108 rfl (l0 := [(0, .slice ao o.length cap), (1, .int .i64 (x : Int))]) rfl ?_
  intro fp
  repeat' first
    | (refine J.qv ?_; (with_reducible apply exq); focus (first
      | ((with_reducible apply Qv.indexSrcs); exact rfl; exact rfl; exact Int.toNat_natCast _; (constructor <;> omega); exact (hS i (by omega)).1)))
    | (refine J.qr ?_; (with_reducible apply exq); focus (first
      | ((with_reducible apply Qr.src1 (A := A)); exact rfl; (repeat (first | with_reducible exact In.here | with_reducible apply In.there)); exact hS.at (i := i) (j := 0) (by omega) (by omega) (iv_at (by omega)))))
    | refine J.one ?_
    | refine J.loudS ?_
    | (refine J.loudQ ?_; intro _ _)
    | (refine J.loudB ?_; intro _)
    | (with_reducible apply J.list)
    | ((with_reducible apply J.gsplit); exact rfl; exact rfl)
    | ((with_reducible first | apply J.cond | apply JC.cond); exact rfl)
    | (intro h; exfalso; (first | (simp at h; done) | omega))
    | (intro h; (try simp only [decide_eq_true_eq, decide_eq_false_iff_not, beq_iff_eq, beq_eq_false_iff_ne, Bool.not_eq_true', Bool.not_eq_false', bne_iff_ne, bne_eq_false_iff_eq, ne_eq, ge_iff_le, gt_iff_lt] at h))
    | (with_reducible apply J.gave')
    | ((with_reducible apply J.kept'); rotate_left; (repeat (first | (with_reducible exact Outs.nil) | ((with_reducible apply Outs.cons); (repeat (first | with_reducible exact Out.here | with_reducible apply Out.there))))))
  apply J.loopI (σ := Nat) (I := fun q => q ≤ o.length ∧ ∀ j, j < q → eqo o x j = false) (L := fun q => [(0, .slice ao o.length cap), (1, .int .i64 (x : Int)), (6, .slice ao o.length cap), (7, .int .i64 (o.length : Int)), (8, .int .i64 (q : Int))]) (HH := fun q => [A]) (m := fun q => o.length - q) (s0 := 0)
  · ((try dsimp only); (exact ⟨by omega, fun j hj => by omega⟩))
  · ((try dsimp only); repeat (first | exact sub.nil _ | (refine sub.consE rfl ?_ ?_; (first | with_reducible rfl | ((focus (congr 1; omega))) | rfl))))
  · ((try dsimp only); (repeat (first | (with_reducible exact Outs.nil) | ((with_reducible apply Outs.cons); (repeat (first | with_reducible exact Out.here | with_reducible apply Out.there))))))
  rintro i ⟨hI, hI2⟩
  try dsimp only at *
  repeat' first
    | (refine J.qv ?_; (with_reducible apply exq); focus (first
      | ((with_reducible apply Qv.indexSrcs); exact rfl; exact rfl; exact Int.toNat_natCast _; (constructor <;> omega); exact (hS i (by omega)).1)))
    | (refine J.qr ?_; (with_reducible apply exq); focus (first
      | ((with_reducible apply Qr.src1 (A := A)); exact rfl; (repeat (first | with_reducible exact In.here | with_reducible apply In.there)); exact hS.at (i := i) (j := 0) (by omega) (by omega) (iv_at (by omega)))))
    | refine J.one ?_
    | refine J.loudS ?_
    | (refine J.loudQ ?_; intro _ _)
    | (refine J.loudB ?_; intro _)
    | (with_reducible apply J.list)
    | ((with_reducible apply J.gsplit); exact rfl; exact rfl)
    | ((with_reducible first | apply J.cond | apply JC.cond); exact rfl)
    | (intro h; exfalso; (first | (simp at h; done) | omega))
    | (intro h; (try simp only [decide_eq_true_eq, decide_eq_false_iff_not, beq_iff_eq, beq_eq_false_iff_ne, Bool.not_eq_true', Bool.not_eq_false', bne_iff_ne, bne_eq_false_iff_eq, ne_eq, ge_iff_le, gt_iff_lt] at h))
    | (with_reducible apply J.gave')
    | ((with_reducible apply J.kept'); rotate_left; (repeat (first | (with_reducible exact Outs.nil) | ((with_reducible apply Outs.cons); (repeat (first | with_reducible exact Out.here | with_reducible apply Out.there))))))
  all_goals
    first
    | (exfalso; omega)
    | (have e0 : i = o.length := by omega
       subst e0
       unfold ixo
       rw [fst_none hI2]
       rfl)
    | (unfold ixo
       rw [fst_some (i := i) (by omega) (by unfold eqo; rw [decide_eq_true_eq]; omega) hI2]
       rfl)
    | ((apply J.againI (s := i) (s' := (i + 1)); (focus (omega)); (focus ((try dsimp only); (exact ⟨by omega, below_succ hI2 (by unfold eqo; rw [decide_eq_false_iff_not]; omega)⟩))); (focus (((try dsimp only); repeat (first | exact sub.nil _ | (refine sub.consE rfl ?_ ?_; (first | with_reducible rfl | ((focus (congr 1; omega))) | rfl)))))); ((try dsimp only); (repeat (first | (with_reducible exact Outs.nil) | ((with_reducible apply Outs.cons); (repeat (first | with_reducible exact Out.here | with_reducible apply Out.there))))))))
    
theorem contains (A : Asrt) (ao : Option Addr) (cap : Nat) (o : List Nat) (x : Nat) (hS : o.length ≤ 1000000 ∧ Srcs A ao 1 o.length (fun i => ((iv o).drop (i * 1)).take 1)) (w : World) : CSpec Tryz.prog 79 [.slice ao o.length cap, .int .i64 (x : Int)] [A] w (Keeps (.bool (o.contains x)) [A]) := by
  refine spec_of Tryz.func79 rfl Tryz.ntmps79 rfl (l0 := [(0, .slice ao o.length cap), (1, .int .i64 (x : Int))]) rfl ?_
  intro fp
  repeat' first
    | ((with_reducible apply J.keepsP (index A ao cap o x)); exact rfl; exact rfl; (repeat (first | (with_reducible exact Outs.nil) | ((with_reducible apply Outs.cons); (repeat (first | with_reducible exact Out.here | with_reducible apply Out.there))))); exact hS)
    | refine J.one ?_
    | refine J.loudS ?_
    | (refine J.loudQ ?_; intro _ _)
    | (refine J.loudB ?_; intro _)
    | (with_reducible apply J.list)
    | ((with_reducible apply J.gsplit); exact rfl; exact rfl)
    | ((with_reducible first | apply J.cond | apply JC.cond); exact rfl)
    | (intro h; exfalso; (first | (simp at h; done) | omega))
    | (intro h; (try simp only [decide_eq_true_eq, decide_eq_false_iff_not, beq_iff_eq, beq_eq_false_iff_ne, Bool.not_eq_true', Bool.not_eq_false', bne_iff_ne, bne_eq_false_iff_eq, ne_eq, ge_iff_le, gt_iff_lt] at h))
    | (with_reducible apply J.gave')
    | ((with_reducible apply J.kept'); rotate_left; (repeat (first | (with_reducible exact Outs.nil) | ((with_reducible apply Outs.cons); (repeat (first | with_reducible exact Out.here | with_reducible apply Out.there))))))
  all_goals (first | (simp only [retv, ixo_in]; done) | (trace_state; fail))
theorem ready (ns : Nat → Int) (t : Tx) (ht : t.In) (w : World) : CSpec Tryz.prog 78 [.agg (nv ns).toArray, .agg t.cells.toArray] [] w (Gives (.bool (rdy ns t))) := by
  have hf : chk t = 0 → 0 ≤ t.fr ∧ t.fr ≤ 7 := chk_fr
  refine spec_of Tryz.func78 rfl Tryz.ntmps78 rfl (l0 := [(0, .agg (nv ns).toArray), (1, .agg t.cells.toArray)]) rfl ?_
  intro fp
  repeat' first
    | (refine J.qv ?_; (with_reducible apply exq); focus (first
      | ((with_reducible apply Qv.indexArr); exact rfl; exact rfl; (constructor <;> omega); exact rfl)))
    | (refine J.qr ?_; (with_reducible apply exq); focus (first
      | ((with_reducible apply Qr.load1); exact rfl; (repeat (first | with_reducible exact In.here | with_reducible apply In.there)); (with_reducible refine tab_at (k := t.fr.toNat) ?_ ?_); (first | omega | rfl); omega)))
    | (refine J.qo ?_; refine ⟨?_, ?_⟩; focus (first
      | ((with_reducible apply Qr.load1); exact rfl; (repeat (first | with_reducible exact In.here | with_reducible apply In.there)); (with_reducible refine tab_at (k := t.fr.toNat) ?_ ?_); (first | omega | rfl); omega)))
    | ((with_reducible apply J.givesP (check _)); exact rfl; exact rfl; (exact ht))
    | refine J.one ?_
    | refine J.loudS ?_
    | (refine J.loudQ ?_; intro _ _)
    | (refine J.loudB ?_; intro _)
    | (with_reducible apply J.list)
    | ((with_reducible apply J.draw (id := 1) [0, 1, 3, 7, 15, 31, 15, 79, 207, 463, 1023, 2047, 4095] (.q 0 (.x 1 (.p 2 (.p 3 (.p 4 (.q 5 (.p 6 (.q 7 (.p 8 (.q 9 (.p 10 (.p 11 (.p 12 .nil))))))))))) .none)) (by kernel_rfl) ?_ (by kernel_rfl) ?_); (repeat (with_reducible first | exact PanicFree.body | exact PanicFree.np | exact PanicFree.lvS | apply PanicFree.then_ | apply PanicFree.blk)))
    | ((with_reducible apply J.pl2); exact rfl; (first | exact Gd.none | ((with_reducible apply Gd.on); exact rfl; exact rfl)); (repeat (first | (with_reducible exact PendF.nil) | ((with_reducible apply PendF.keep); exact rfl) | ((with_reducible apply PendF.gone); exact rfl))))
    | ((with_reducible apply J.pl2_off); exact rfl; ((with_reducible apply Gd.off); exact rfl; exact rfl; exact rfl); exact rfl; (repeat (first | (with_reducible exact PendF.nil) | ((with_reducible apply PendF.keep); exact rfl) | ((with_reducible apply PendF.gone); exact rfl))))
    | ((with_reducible apply J.pl2_off_none); exact rfl; ((with_reducible apply Gd.off); exact rfl; exact rfl; exact rfl); (repeat (first | (with_reducible exact PendF.nil) | ((with_reducible apply PendF.keep); exact rfl) | ((with_reducible apply PendF.gone); exact rfl))))
    | ((with_reducible first | apply J.psplit0 | apply J.psplit1 | apply J.psplit2); exact rfl; exact rfl; exact rfl)
    | (with_reducible exact J.pl_none)
    | ((with_reducible apply J.gsplit); exact rfl; exact rfl)
    | ((with_reducible first | apply J.cond | apply JC.cond); exact rfl)
    | (intro h; exfalso; (first | (simp at h; done) | omega))
    | (intro h; (try simp only [decide_eq_true_eq, decide_eq_false_iff_not, beq_iff_eq, beq_eq_false_iff_ne, Bool.not_eq_true', Bool.not_eq_false', bne_iff_ne, bne_eq_false_iff_eq, ne_eq, ge_iff_le, gt_iff_lt] at h))
    | (with_reducible apply J.gave')
    | ((with_reducible apply J.kept'); rotate_left; (repeat (first | (with_reducible exact Outs.nil) | ((with_reducible apply Outs.cons); (repeat (first | with_reducible exact Out.here | with_reducible apply Out.there))))))
  all_goals (first | (simp only [retv, rdy, Value.bool.injEq]; rw [Bool.eq_iff_iff]; simp [*]; done) | (trace_state; fail))
end Go.Proofs.YtljbedladifgmaaGreat.Bld
namespace Go.Proofs.YtljbedladifgmaaGreat.Bld2
open Go Go.RowKit Eng
set_option linter.unusedVariables false
set_option maxRecDepth 100000
set_option linter.unusedSimpArgs false
open Wide Tx Bld
set_option maxHeartbeats 4000000
theorem nv_take (ns : Nat → Int) : ((nv ns).drop 0).take 8 = nv ns := by rw [List.drop_zero]; exact List.take_of_length_le (Nat.le_of_eq (tab_length 8))
theorem nv_length (ns : Nat → Int) : (nv ns).length = 8 := tab_length 8
theorem nv_all (ns : Nat → Int) : (nv ns).all (·.oneCell') = true := rfl
theorem cells_take (t : Tx) : (t.cells.drop 0).take 25 = t.cells := rfl
theorem cells_len (t : Tx) : t.cells.length = 25 := rfl
theorem cells_all (t : Tx) : t.cells.all (·.oneCell') = true := rfl
theorem run_end {T : Nat → Tx} {n k : Nat} {ns : Nat → Int} {o R : List Nat} (h : run T n (n - k) ns o = R) (hk : k = n) : o = R := by
  subst hk
  rw [Nat.sub_self] at h
  exact h
theorem run_stop {T : Nat → Tx} {n k i : Nat} {ns : Nat → Int} {o R : List Nat} (h : run T n (n - k) ns o = R) (hi : i = n) (h2 : ∀ j, j < i → nxt T ns o j = false) : o = R := by
  subst hi
  rw [run_none h2] at h
  exact h
theorem run_go {T : Nat → Tx} {n k i : Nat} {ns : Nat → Int} {o R : List Nat} (h : run T n (n - k) ns o = R) (hk : k < n) (hi : i < n) (h1 : nxt T ns o i = true) (h2 : ∀ j, j < i → nxt T ns o j = false) : run T n (n - (k + 1)) (bump ns (T i).fr.toNat) (o ++ [i]) = R := by
  rw [show n - k = (n - (k + 1)) + 1 by omega, run_some hi h1 h2] at h
  exact h
theorem nxt_t {T : Nat → Tx} {ns : Nat → Int} {o : List Nat} {i : Nat} (h1 : rdy ns (T i) = true) (h2 : o.contains i = false) : nxt T ns o i = true := by simp only [nxt, h1, h2]; rfl
theorem nxt_f1 {T : Nat → Tx} {ns : Nat → Int} {o : List Nat} {i : Nat} (h1 : rdy ns (T i) = false) : nxt T ns o i = false := by simp only [nxt, h1]; rfl
theorem nxt_f2 {T : Nat → Tx} {ns : Nat → Int} {o : List Nat} {i : Nat} (h2 : o.contains i = true) : nxt T ns o i = false := by simp only [nxt, h2]; cases rdy ns (T i) <;> rfl

theorem order (A : Asrt) (ao : Option Addr) (cap n : Nat) (T : Nat → Tx) (ns : Nat → Int) (S : List Value) (h : Srcs A ao 25 n (fun i => (T i).cells) ∧ (∀ i, i < n → (T i).In) ∧ n ≤ 1000 ∧ (S.drop 130).take 8 = nv ns) (w : World) : CSpec Tryz.prog 41 [.agg S.toArray, .slice ao n cap] [A] w (Fresh 3 1 (run T n n ns []).length (iv (run T n n ns [])) [A]) := by
  obtain ⟨hS, hT, hn, hN⟩ := h
  refine spec_of Tryz.func41 rfl Tryz.ntmps41 rfl (l0 := [(0, .agg S.toArray), (1, .slice ao n cap)]) rfl ?_
  intro fp
  repeat' first
    | (with_reducible apply J.label)
    | (with_reducible apply J.scope)
    | (with_reducible apply J.sco_)
    | (with_reducible apply J.sco_ret)
    | (with_reducible apply J.sco_exit)
    | (with_reducible apply J.sco_panic)
    | (refine J.qv ?_; (with_reducible apply exq); focus (first
      | ((with_reducible apply Qv.indexSrcs); exact rfl; exact rfl; exact Int.toNat_natCast _; (constructor <;> omega); exact (hS i (by omega)).1)
      | ((with_reducible apply Qv.indexArr); exact rfl; exact rfl; (have h7 := chk_fr (rdy_of (ns := ns1) (t := T i) (by assumption)).1; constructor <;> omega); exact rfl)
      | ((with_reducible apply Qv.add); exact rfl; exact rfl; (have h7 := rdy_of (ns := ns1) (t := T i) (by assumption); have h8 := chk_no h7.1; exact wr64 (by omega) (by omega) rfl))))
    | (refine J.qr ?_; (with_reducible apply exq); focus (first
      | ((with_reducible apply Qr.srcN (A := A) (k := i) (C := fun i => (T i).cells) (v := .bool true)); exact rfl; (repeat (first | with_reducible exact In.here | with_reducible apply In.there)); exact fun h fp hh j u hu => (hS i (by omega)).2 h fp hh j u hu; exact cells_len _)
      | ((with_reducible apply Qr.loadN); exact rfl; (repeat (first | with_reducible exact In.here | with_reducible apply In.there)); exact nv_take _; exact nv_length _)
      | ((with_reducible apply Qr.loadN); exact rfl; (repeat (first | with_reducible exact In.here | with_reducible apply In.there)); exact cells_take _; exact cells_len _)
      | ((with_reducible apply Qr.loadN); exact rfl; (repeat (first | with_reducible exact In.here | with_reducible apply In.there)); exact hN; exact nv_length _)
      | ((with_reducible apply Qr.load1); exact rfl; (repeat (first | with_reducible exact In.here | with_reducible apply In.there)); (with_reducible refine tab_at (k := (T i).fr.toNat) ?_ ?_); (first | omega | rfl); (have h7 := chk_fr (rdy_of (ns := ns1) (t := T i) (by assumption)).1; omega))))
    | ((with_reducible apply J.storeN); exact rfl; exact rfl; (repeat (first | with_reducible exact Upd.here | with_reducible apply Upd.there)); exact splice_all rfl; exact cells_len _; (simp only [nl]; omega); exact cells_all _)
    | ((with_reducible apply J.storeN); exact rfl; exact rfl; (repeat (first | with_reducible exact Upd.here | with_reducible apply Upd.there)); exact splice_all rfl; exact nv_length _; (simp only [nl]; omega); exact nv_all _)
    | ((with_reducible apply J.store1); exact rfl; exact rfl; exact rfl; (repeat (first | with_reducible exact Upd.here | with_reducible apply Upd.there)); (with_reducible refine tab_put (k := (T i).fr.toNat) ?_ ?_); (first | omega | rfl); (have h7 := chk_fr (rdy_of (ns := ns1) (t := T i) (by assumption)).1; omega); (rw [tab_length]; (have h7 := chk_fr (rdy_of (ns := ns1) (t := T i) (by assumption)).1; omega)))
    | ((with_reducible apply J.givesP (ready _ _)); exact rfl; exact rfl; (exact hT i (by omega)))
    | ((with_reducible apply J.keepsP (contains (row (.slice vo o.length vc) 3 1 o.length (iv o)) vo vc o i)); exact rfl; exact rfl; (repeat (first | (with_reducible exact Outs.nil) | ((with_reducible apply Outs.cons); (repeat (first | with_reducible exact Out.here | with_reducible apply Out.there))))); (exact ⟨by omega, hR⟩))
    | refine J.one ?_
    | refine J.loudS ?_
    | (refine J.loudQ ?_; intro _ _)
    | (refine J.loudB ?_; intro _)
    | (with_reducible apply J.list)
    | ((with_reducible apply J.gsplit); exact rfl; exact rfl)
    | ((with_reducible first | apply J.cond | apply JC.cond); exact rfl)
    | (intro h; exfalso; (first | (simp at h; done) | omega))
    | (intro h; (try simp only [decide_eq_true_eq, decide_eq_false_iff_not, beq_iff_eq, beq_eq_false_iff_ne, Bool.not_eq_true', Bool.not_eq_false', bne_iff_ne, bne_eq_false_iff_eq, ne_eq, ge_iff_le, gt_iff_lt] at h))
    | (with_reducible apply J.gave')
    | ((with_reducible apply J.kept'); rotate_left; (repeat (first | (with_reducible exact Outs.nil) | ((with_reducible apply Outs.cons); (repeat (first | with_reducible exact Out.here | with_reducible apply Out.there))))))
  rename_i b2 b6
  apply J.nilRowN 3 1 ([] : List Nat).length (iv [])
  · rfl
  · rfl
  apply J.loopI (σ := Nat × (Nat → Int) × List Nat × Value) (I := fun s => s.1 ≤ n ∧ s.2.2.1.length = s.1 ∧ run T n (n - s.1) s.2.1 s.2.2.1 = run T n n ns []) (L := fun s => [(1, .slice ao n cap), (5, s.2.2.2), (6, .pointer (some ⟨b6, 0, none⟩)), (12, .int .i64 (n : Int)), (13, .int .i64 (s.1 : Int))]) (HH := fun s => [A, row s.2.2.2 3 1 s.2.2.1.length (iv s.2.2.1), blk b6 (nv s.2.1) 31]) (m := fun s => n - s.1) (s0 := (0, ns, [], .slice none 0 0))
  · ((try dsimp only); (exact ⟨Nat.zero_le _, rfl, rfl⟩))
  · ((try dsimp only); repeat (first | exact sub.nil _ | (refine sub.consE rfl ?_ ?_; (first | with_reducible rfl | ((focus (congr 1; omega))) | rfl))))
  · ((try dsimp only); (repeat (first | (with_reducible exact Outs.nil) | ((with_reducible apply Outs.cons); (repeat (first | with_reducible exact Out.here | with_reducible apply Out.there))))))
  rintro ⟨k, ns1, o, v⟩ ⟨hk, ho, hr⟩
  try dsimp only at *
  repeat' first
    | (with_reducible apply J.label)
    | (with_reducible apply J.scope)
    | (with_reducible apply J.sco_)
    | (with_reducible apply J.sco_ret)
    | (with_reducible apply J.sco_exit)
    | (with_reducible apply J.sco_panic)
    | (refine J.qv ?_; (with_reducible apply exq); focus (first
      | ((with_reducible apply Qv.indexSrcs); exact rfl; exact rfl; exact Int.toNat_natCast _; (constructor <;> omega); exact (hS i (by omega)).1)
      | ((with_reducible apply Qv.indexArr); exact rfl; exact rfl; (have h7 := chk_fr (rdy_of (ns := ns1) (t := T i) (by assumption)).1; constructor <;> omega); exact rfl)
      | ((with_reducible apply Qv.add); exact rfl; exact rfl; (have h7 := rdy_of (ns := ns1) (t := T i) (by assumption); have h8 := chk_no h7.1; exact wr64 (by omega) (by omega) rfl))))
    | (refine J.qr ?_; (with_reducible apply exq); focus (first
      | ((with_reducible apply Qr.srcN (A := A) (k := i) (C := fun i => (T i).cells) (v := .bool true)); exact rfl; (repeat (first | with_reducible exact In.here | with_reducible apply In.there)); exact fun h fp hh j u hu => (hS i (by omega)).2 h fp hh j u hu; exact cells_len _)
      | ((with_reducible apply Qr.loadN); exact rfl; (repeat (first | with_reducible exact In.here | with_reducible apply In.there)); exact nv_take _; exact nv_length _)
      | ((with_reducible apply Qr.loadN); exact rfl; (repeat (first | with_reducible exact In.here | with_reducible apply In.there)); exact cells_take _; exact cells_len _)
      | ((with_reducible apply Qr.loadN); exact rfl; (repeat (first | with_reducible exact In.here | with_reducible apply In.there)); exact hN; exact nv_length _)
      | ((with_reducible apply Qr.load1); exact rfl; (repeat (first | with_reducible exact In.here | with_reducible apply In.there)); (with_reducible refine tab_at (k := (T i).fr.toNat) ?_ ?_); (first | omega | rfl); (have h7 := chk_fr (rdy_of (ns := ns1) (t := T i) (by assumption)).1; omega))))
    | ((with_reducible apply J.storeN); exact rfl; exact rfl; (repeat (first | with_reducible exact Upd.here | with_reducible apply Upd.there)); exact splice_all rfl; exact cells_len _; (simp only [nl]; omega); exact cells_all _)
    | ((with_reducible apply J.storeN); exact rfl; exact rfl; (repeat (first | with_reducible exact Upd.here | with_reducible apply Upd.there)); exact splice_all rfl; exact nv_length _; (simp only [nl]; omega); exact nv_all _)
    | ((with_reducible apply J.store1); exact rfl; exact rfl; exact rfl; (repeat (first | with_reducible exact Upd.here | with_reducible apply Upd.there)); (with_reducible refine tab_put (k := (T i).fr.toNat) ?_ ?_); (first | omega | rfl); (have h7 := chk_fr (rdy_of (ns := ns1) (t := T i) (by assumption)).1; omega); (rw [tab_length]; (have h7 := chk_fr (rdy_of (ns := ns1) (t := T i) (by assumption)).1; omega)))
    | ((with_reducible apply J.givesP (ready _ _)); exact rfl; exact rfl; (exact hT i (by omega)))
    | ((with_reducible apply J.keepsP (contains (row (.slice vo o.length vc) 3 1 o.length (iv o)) vo vc o i)); exact rfl; exact rfl; (repeat (first | (with_reducible exact Outs.nil) | ((with_reducible apply Outs.cons); (repeat (first | with_reducible exact Out.here | with_reducible apply Out.there))))); (exact ⟨by omega, hR⟩))
    | refine J.one ?_
    | refine J.loudS ?_
    | (refine J.loudQ ?_; intro _ _)
    | (refine J.loudB ?_; intro _)
    | (with_reducible apply J.list)
    | ((with_reducible apply J.gsplit); exact rfl; exact rfl)
    | ((with_reducible first | apply J.cond | apply JC.cond); exact rfl)
    | (intro h; exfalso; (first | (simp at h; done) | omega))
    | (intro h; (try simp only [decide_eq_true_eq, decide_eq_false_iff_not, beq_iff_eq, beq_eq_false_iff_ne, Bool.not_eq_true', Bool.not_eq_false', bne_iff_ne, bne_eq_false_iff_eq, ne_eq, ge_iff_le, gt_iff_lt] at h))
    | (with_reducible apply J.gave')
    | ((with_reducible apply J.kept'); rotate_left; (repeat (first | (with_reducible exact Outs.nil) | ((with_reducible apply Outs.cons); (repeat (first | with_reducible exact Out.here | with_reducible apply Out.there))))))
  any_goals
    apply J.rowV (v := v) (n := o.length) (E := 3) (sz := 1) (C := iv o)
    · (repeat (first | with_reducible exact In.here | with_reducible apply In.there))
    rintro vo vc rfl hR
    apply J.loopI (σ := Nat) (I := fun q => q ≤ n ∧ ∀ j, j < q → nxt T ns1 o j = false) (L := fun q => [(1, .slice ao n cap), (5, .slice vo o.length vc), (6, .pointer (some ⟨b6, 0, none⟩)), (12, .int .i64 (n : Int)), (13, .int .i64 (k : Int)), (15, .slice ao n cap), (16, .int .i64 (n : Int)), (17, .int .i64 (q : Int))]) (HH := fun q => [A, row (.slice vo o.length vc) 3 1 o.length (iv o), blk b6 (nv ns1) 31]) (m := fun q => n - q) (s0 := 0)
    · ((try dsimp only); (exact ⟨Nat.zero_le _, fun j hj => by omega⟩))
    · ((try dsimp only); repeat (first | exact sub.nil _ | (refine sub.consE rfl ?_ ?_; (first | with_reducible rfl | ((focus (congr 1; omega))) | rfl))))
    · ((try dsimp only); (repeat (first | (with_reducible exact Outs.nil) | ((with_reducible apply Outs.cons); (repeat (first | with_reducible exact Out.here | with_reducible apply Out.there))))))
    rintro i ⟨hi, hf⟩
    try dsimp only at *
    repeat' first
      | (with_reducible apply J.label)
      | (with_reducible apply J.scope)
      | (with_reducible apply J.sco_)
      | (with_reducible apply J.sco_ret)
      | (with_reducible apply J.sco_exit)
      | (with_reducible apply J.sco_panic)
      | (refine J.qv ?_; (with_reducible apply exq); focus (first
        | ((with_reducible apply Qv.indexSrcs); exact rfl; exact rfl; exact Int.toNat_natCast _; (constructor <;> omega); exact (hS i (by omega)).1)
        | ((with_reducible apply Qv.indexArr); exact rfl; exact rfl; (have h7 := chk_fr (rdy_of (ns := ns1) (t := T i) (by assumption)).1; constructor <;> omega); exact rfl)
        | ((with_reducible apply Qv.add); exact rfl; exact rfl; (have h7 := rdy_of (ns := ns1) (t := T i) (by assumption); have h8 := chk_no h7.1; exact wr64 (by omega) (by omega) rfl))))
      | (refine J.qr ?_; (with_reducible apply exq); focus (first
        | ((with_reducible apply Qr.srcN (A := A) (k := i) (C := fun i => (T i).cells) (v := .bool true)); exact rfl; (repeat (first | with_reducible exact In.here | with_reducible apply In.there)); exact fun h fp hh j u hu => (hS i (by omega)).2 h fp hh j u hu; exact cells_len _)
        | ((with_reducible apply Qr.loadN); exact rfl; (repeat (first | with_reducible exact In.here | with_reducible apply In.there)); exact nv_take _; exact nv_length _)
        | ((with_reducible apply Qr.loadN); exact rfl; (repeat (first | with_reducible exact In.here | with_reducible apply In.there)); exact cells_take _; exact cells_len _)
        | ((with_reducible apply Qr.loadN); exact rfl; (repeat (first | with_reducible exact In.here | with_reducible apply In.there)); exact hN; exact nv_length _)
        | ((with_reducible apply Qr.load1); exact rfl; (repeat (first | with_reducible exact In.here | with_reducible apply In.there)); (with_reducible refine tab_at (k := (T i).fr.toNat) ?_ ?_); (first | omega | rfl); (have h7 := chk_fr (rdy_of (ns := ns1) (t := T i) (by assumption)).1; omega))))
      | ((with_reducible apply J.storeN); exact rfl; exact rfl; (repeat (first | with_reducible exact Upd.here | with_reducible apply Upd.there)); exact splice_all rfl; exact cells_len _; (simp only [nl]; omega); exact cells_all _)
      | ((with_reducible apply J.storeN); exact rfl; exact rfl; (repeat (first | with_reducible exact Upd.here | with_reducible apply Upd.there)); exact splice_all rfl; exact nv_length _; (simp only [nl]; omega); exact nv_all _)
      | ((with_reducible apply J.store1); exact rfl; exact rfl; exact rfl; (repeat (first | with_reducible exact Upd.here | with_reducible apply Upd.there)); (with_reducible refine tab_put (k := (T i).fr.toNat) ?_ ?_); (first | omega | rfl); (have h7 := chk_fr (rdy_of (ns := ns1) (t := T i) (by assumption)).1; omega); (rw [tab_length]; (have h7 := chk_fr (rdy_of (ns := ns1) (t := T i) (by assumption)).1; omega)))
      | ((with_reducible apply J.givesP (ready _ _)); exact rfl; exact rfl; (exact hT i (by omega)))
      | ((with_reducible apply J.keepsP (contains (row (.slice vo o.length vc) 3 1 o.length (iv o)) vo vc o i)); exact rfl; exact rfl; (repeat (first | (with_reducible exact Outs.nil) | ((with_reducible apply Outs.cons); (repeat (first | with_reducible exact Out.here | with_reducible apply Out.there))))); (exact ⟨by omega, hR⟩))
      | refine J.one ?_
      | refine J.loudS ?_
      | (refine J.loudQ ?_; intro _ _)
      | (refine J.loudB ?_; intro _)
      | (with_reducible apply J.list)
      | ((with_reducible apply J.gsplit); exact rfl; exact rfl)
      | ((with_reducible first | apply J.cond | apply JC.cond); exact rfl)
      | (intro h; exfalso; (first | (simp at h; done) | omega))
      | (intro h; (try simp only [decide_eq_true_eq, decide_eq_false_iff_not, beq_iff_eq, beq_eq_false_iff_ne, Bool.not_eq_true', Bool.not_eq_false', bne_iff_ne, bne_eq_false_iff_eq, ne_eq, ge_iff_le, gt_iff_lt] at h))
      | (with_reducible apply J.gave')
      | ((with_reducible apply J.kept'); rotate_left; (repeat (first | (with_reducible exact Outs.nil) | ((with_reducible apply Outs.cons); (repeat (first | with_reducible exact Out.here | with_reducible apply Out.there))))))
  all_goals
    first
    | (exfalso; omega)
    | (have e0 := run_end hr (by omega)
       rw [← e0]
       with_reducible apply J.fresh'
       · (repeat (first | (with_reducible exact Outs.nil) | ((with_reducible apply Outs.cons); (repeat (first | with_reducible exact Out.here | with_reducible apply Out.there)))))
       · rfl)
    | (have e0 := run_stop hr (by omega) hf
       rw [← e0]
       with_reducible apply J.fresh'
       · (repeat (first | (with_reducible exact Outs.nil) | ((with_reducible apply Outs.cons); (repeat (first | with_reducible exact Out.here | with_reducible apply Out.there)))))
       · rfl)
    | ((apply J.againI (s := i) (s' := (i + 1)); (focus (omega)); (focus ((try dsimp only); (exact ⟨by omega, below_succ hf (nxt_f1 (by assumption))⟩))); (focus (((try dsimp only); repeat (first | exact sub.nil _ | (refine sub.consE rfl ?_ ?_; (first | with_reducible rfl | ((focus (congr 1; omega))) | rfl)))))); ((try dsimp only); (repeat (first | (with_reducible exact Outs.nil) | ((with_reducible apply Outs.cons); (repeat (first | with_reducible exact Out.here | with_reducible apply Out.there))))))))
    | ((apply J.againI (s := i) (s' := (i + 1)); (focus (omega)); (focus ((try dsimp only); (exact ⟨by omega, below_succ hf (nxt_f2 (by assumption))⟩))); (focus (((try dsimp only); repeat (first | exact sub.nil _ | (refine sub.consE rfl ?_ ?_; (first | with_reducible rfl | ((focus (congr 1; omega))) | rfl)))))); ((try dsimp only); (repeat (first | (with_reducible exact Outs.nil) | ((with_reducible apply Outs.cons); (repeat (first | with_reducible exact Out.here | with_reducible apply Out.there))))))))
    | (apply J.reB (b := b6) (C' := nv (bump ns1 (T i).fr.toNat))
       · (repeat (first | with_reducible exact Upd.here | with_reducible apply Upd.there))
       · (exact bump_put rfl)
       rename_i q2 hq2
       apply J.reC (v := .slice q2.1 (o.length + 1) q2.2) (E := 3) (sz := 1) (n := o.length + 1) (C := iv o ++ [.int .i64 (i : Int)]) (n' := (o ++ [i]).length) (C' := iv (o ++ [i]))
       · (repeat (first | with_reducible exact Upd.here | with_reducible apply Upd.there))
       · simp
       · exact iv_add o i
       (apply J.againI (s := (k, ns1, o, .slice vo o.length vc)) (s' := (k + 1, bump ns1 (T i).fr.toNat, o ++ [i], .slice q2.1 (o.length + 1) q2.2)); (focus (((try dsimp only); omega))); (focus ((try dsimp only); (exact ⟨by omega, by simp [ho], run_go hr (by omega) (by omega) (nxt_t (by assumption) (by assumption)) hf⟩))); (focus (((try dsimp only); repeat (first | exact sub.nil _ | (refine sub.consE rfl ?_ ?_; (first | with_reducible rfl | ((focus (congr 1; omega))) | rfl)))))); ((try dsimp only); (repeat (first | (with_reducible exact Outs.nil) | ((with_reducible apply Outs.cons); (repeat (first | with_reducible exact Out.here | with_reducible apply Out.there))))))))
end Go.Proofs.YtljbedladifgmaaGreat.Bld2
