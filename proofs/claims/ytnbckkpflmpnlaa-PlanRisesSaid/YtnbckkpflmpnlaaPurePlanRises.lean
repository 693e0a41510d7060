/-
  For every delay taken modulo six and every two times, with the next greater delay sides last no less and there is no more time for anything. No conditions.
-/
import Derived.Test.YtnbckkpflmpnlaaPPlanRisesx1
namespace Go.Proofs.Ytnbckkpflmpnlaa.Pure
open Go.RowKit Go.Proofs.Ytnbckkpflmpnlaa.PPlanRises Go.Proofs.YtnbckkpflmpnlaaW.PrintWords Go.Proofs.YtnbckkpflmpnlaaW.PrintLast

theorem wf_bd {x : Int} (h : (Lit.int .i64 x).wf = true) : -9223372036854775808 ≤ x ∧ x ≤ 9223372036854775807 := by
  simp [Lit.wf, IntKind.min, IntKind.max, IntKind.signed, IntKind.bits] at h
  omega

theorem dl (d : Int) : ∃ n, plan_Delay.f d = some n ∧ 1 ≤ n ∧ n ≤ 4 ∧ mn (mx d 1) 4 = n ∧ (d ≤ 1 → n = 1) ∧ (4 ≤ d → n = 4) ∧ (1 ≤ d → d ≤ 4 → n = d) := by
  refine ⟨_, rfl, ?_⟩
  unfold mn mx
  repeat' split
  all_goals omega

theorem w64 {x : Int} (h : -9223372036854775808 ≤ x) (h' : x ≤ 9223372036854775807) : wrap64 x = x := by
  unfold wrap64; omega

theorem long_of {d n : Int} (h : plan_Delay.f d = some n) (h1 : 1 ≤ n) (h4 : n ≤ 4) : plan_Long.f d = some (16 * n + 12) := by
  unfold plan_Long.f; rw [h]; simp only [Option.bind_some]
  rw [w64 (x := 16 * n) (by omega) (by omega), w64 (by omega) (by omega)]

theorem short_of {d n : Int} (h : plan_Delay.f d = some n) (h1 : 1 ≤ n) (h4 : n ≤ 4) : plan_Short.f d = some (8 * n + 4) := by
  unfold plan_Short.f; rw [h]; simp only [Option.bind_some]
  rw [w64 (x := 8 * n) (by omega) (by omega), w64 (by omega) (by omega)]

def inr (a : Int) : Bool := decide (0 ≤ a) && decide (a ≤ 1099511627776)

theorem times_of (k : Nat) (a b : Int) : plan_times.f (k + 3) [a, b] = some (inr a && inr b) := by
  unfold plan_times.f inr
  simp only [plan_times.l0, List.length_cons, List.length_nil]
  have e1 : wrap64 (0 + 1) = 1 := w64 (by omega) (by omega)
  have e2 : wrap64 (1 + 1) = 2 := w64 (by omega) (by omega)
  have r0 : rd [a, b] 0 = a := rfl
  have r1 : rd [a, b] 1 = b := rfl
  rw [e1, e2, r0, r1]
  by_cases a0 : a < 0
  · simp [a0]
    try omega
  by_cases a1 : 1099511627776 < a
  · simp [a0, a1]
    try omega
  by_cases b0 : b < 0
  · simp [a0, a1, b0]
    try omega
  by_cases b1 : 1099511627776 < b
  · simp [a0, a1, b0, b1]
    try omega
  · simp [a0, a1, b0, b1]
    try omega

theorem far_of (k : Nat) (a b c : Int) : plan_far.f (k + 3) a b c = some (inr a && inr b && decide (b - a > c)) := by
  unfold plan_far.f; rw [times_of]; simp only [Option.bind_some]
  by_cases h : (inr a && inr b) = true
  · rw [if_pos h, h]
    have : wrap64 (b - a) = b - a := by
      simp [inr] at h
      exact w64 (by omega) (by omega)
    rw [this]; simp
  · rw [if_neg h]
    have : (inr a && inr b) = false := by simpa using h
    rw [this]; simp

theorem mirror_of (k : Nat) {d n : Int} (a b : Int) (h : plan_Delay.f d = some n) (h1 : 1 ≤ n) (h4 : n ≤ 4) : plan_Mirror.f (k + 3) a b d = some (inr a && inr b && decide (b - a > 11 * n + 5)) := by
  unfold plan_Mirror.f; rw [short_of h h1 h4, h]; simp only [Option.bind_some]
  rw [w64 (x := 3 * n) (by omega) (by omega), w64 (x := 8 * n + 4 + 3 * n) (by omega) (by omega), w64 (by omega) (by omega), far_of]
  simp only [Option.bind_some]
  rw [show 8 * n + 4 + 3 * n + 1 = 11 * n + 5 by omega]

theorem release_of (k : Nat) {d n : Int} (a b : Int) (h : plan_Delay.f d = some n) (h1 : 1 ≤ n) (h4 : n ≤ 4) : plan_Release.f (k + 3) a b d = some (inr a && inr b && decide (b - a > n + 1)) := by
  unfold plan_Release.f; rw [h]; simp only [Option.bind_some]
  rw [w64 (by omega) (by omega), far_of]
  simp only [Option.bind_some]

theorem alive_of : narrowslaw17_alive.f = some true := by
  obtain ⟨n, hn, h1, h4, _, g1, _, _⟩ := dl 1
  have e := g1 (by omega)
  subst e
  unfold narrowslaw17_alive.f plan_Window.f
  rw [long_of hn (by omega) (by omega), short_of hn (by omega) (by omega)]
  rfl

theorem due_of (k : Nat) {d n : Int} (a b : Int) (h : plan_Delay.f d = some n) : plan_Due.f (k + 3) a b d = some (inr a && inr b && decide (b - a > n)) := by
  unfold plan_Due.f; rw [h]; simp only [Option.bind_some]
  rw [far_of]
  simp only [Option.bind_some]

theorem d_of (t : Int) : ∃ x, Int.tmod (wrap64 ((Int.tmod t 6) + 6)) 6 = x ∧ 0 ≤ x ∧ x < 6 := by
  have e1 := Int.lt_tmod_of_pos t (b := 6) (by decide)
  have e2 := Int.tmod_lt_of_pos t (b := 6) (by decide)
  refine ⟨_, rfl, ?_⟩
  rw [w64 (by omega) (by omega), Int.tmod_eq_emod_of_nonneg (by omega)]
  omega

theorem impl_all (p q r s t u : Bool) (h1 : p = true → q = true) (h2 : r = true → s = true) (h3 : t = true → u = true) :
    (if p = true then (if q = true then (if r = true then (if s = true then (if t = true then some u else some true) else some false) else (if t = true then some u else some true)) else some false) else (if r = true then (if s = true then (if t = true then some u else some true) else some false) else (if t = true then some u else some true))) = some true := by
  revert h1 h2 h3
  cases p <;> cases q <;> cases r <;> cases s <;> cases t <;> cases u <;> simp

theorem PlanRises : narrowslaw17_PlanRises.Pure := by
  intro d a b hd ha hb
  obtain ⟨x, hx, x0, x5⟩ := d_of d
  obtain ⟨n, hn, h1, h4, _, _, _, _⟩ := dl x
  obtain ⟨m, hm, g1, g4, _, _, _, _⟩ := dl (x + 1)
  have hnm : n ≤ m := by omega
  refine ⟨4, ?_⟩
  unfold narrowslaw17_PlanRises.f
  rw [hx, alive_of, w64 (x := x + 1) (by omega) (by omega), short_of hm g1 g4, short_of hn h1 h4, long_of hm g1 g4, long_of hn h1 h4, hm, hn]
  simp only [Option.bind_some]
  rw [if_pos trivial, if_neg (by omega), if_neg (by omega), decide_eq_false (by omega)]
  simp only [narrowslaw17_PlanRises.j0]
  rw [if_neg (by decide), release_of 0 a b hn h1 h4, mirror_of 0 a b hn h1 h4, due_of 0 a b hn, release_of 0 a b hm g1 g4, mirror_of 0 a b hm g1 g4, due_of 0 a b hm]
  simp only [Option.bind_some]
  apply impl_all
  all_goals
    intro h
    simp only [Bool.and_eq_true, decide_eq_true_eq] at h ⊢
    exact ⟨h.1, by omega⟩

end Go.Proofs.Ytnbckkpflmpnlaa.Pure
