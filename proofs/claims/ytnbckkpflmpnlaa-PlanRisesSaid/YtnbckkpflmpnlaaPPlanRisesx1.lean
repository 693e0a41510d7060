-- PRINTED BY print.sh 35421559b90ae4d0a3588c463048766b98c2df88dd9212a6774a882060cdf62d: not written by this session
import Derived.Test.YtnbckkpflmpnlaaPPlanRisesx0
namespace Go.Proofs.Ytnbckkpflmpnlaa.PPlanRises
open Go.RowKit Go.Proofs.YtnbckkpflmpnlaaW.PrintWords Go.Proofs.YtnbckkpflmpnlaaW.PrintLast Go.Proofs.YtnbckkpflmpnlaaW.PrintMore
attribute [local go_sem] max2_int min2_int max_two min_two max_three min_three max_four min_four   -- for this text's walks alone
set_option linter.unusedVariables false
set_option linter.unusedSimpArgs false

/-! ### plan_Delay: function 25 -/
def plan_Delay.f (a0 : Int) : Option (Int) := some (mn (mx a0 1) 4)
set_option maxHeartbeats 8000000 in
set_option maxRecDepth 100000 in
theorem plan_Delay.calls (a0 : Int) (r : Int) (w : World) (h : plan_Delay.f a0 = some r) :
    Calls Try.prog 25 #[.int .i64 a0] w fun e w' => e = .returned (.int .i64 r) ∧ Below w.heap.size w w' := by
  have HB := Aside0.mk (Below.refl w.heap.size w)
  have H : (some (mn (mx a0 1) 4)) = some r := h
  clear h
  obtain ⟨ji2, hji2⟩ : ∃ j_ : Int, (mx a0 1) = j_ := ⟨_, rfl⟩
  replace H : (some (mn (ji2) 4)) = some r := by first | (rw [hji2] at H; exact H) | (simp only [hji2] at H ⊢; exact H)
  (try (have hji2l : 1 ≤ ji2 := by (rw [← hji2]; unfold mx; (repeat' split) <;> omega)))
  (try (have hji2m : 0 ≤ ji2 := by omega))
  have hji2_ : (if a0 < 1 then 1 else a0) = ji2 := hji2
  obtain ⟨ji3, hji3⟩ : ∃ j_ : Int, (mn (ji2) 4) = j_ := ⟨_, rfl⟩
  replace H : (some ji3) = some r := by first | (rw [hji3] at H; exact H) | (simp only [hji3] at H ⊢; exact H)
  have hji3_ : (if 4 < (ji2) then 4 else (ji2)) = ji3 := hji3
  obtain rfl := Option.some.inj H
  go_enter Try.func25, Try.ntmps25
  go_wp2
  go_ret
  exact ⟨by first | rfl | (simp [errW_none, errW_some] <;> rfl) | (simp only [← hji2, ← hji3]; first | rfl | (simp [errW_none, errW_some] <;> rfl)) | (simp [*, errW_none, errW_some] <;> rfl), by repeat (first | (with_reducible first | exact HB.out | apply below_alloc | apply pw_below_drewN | apply below_drew1) | exact HB.out)⟩

/-! ### plan_Long: function 27 -/
def plan_Long.f (a0 : Int) : Option (Int) := (plan_Delay.f a0).bind fun t101 => (some (wrap64 ((wrap64 (16 * t101)) + 12)))
set_option maxHeartbeats 8000000 in
set_option maxRecDepth 100000 in
theorem plan_Long.calls (a0 : Int) (r : Int) (w : World) (h : plan_Long.f a0 = some r) :
    Calls Try.prog 27 #[.int .i64 a0] w fun e w' => e = .returned (.int .i64 r) ∧ Below w.heap.size w w' := by
  have HB := Aside0.mk (Below.refl w.heap.size w)
  have H : ((plan_Delay.f a0).bind fun t101 => (some (wrap64 ((wrap64 (16 * t101)) + 12)))) = some r := h
  clear h
  replace H := Option.bind_eq_some_iff.mp H
  obtain ⟨t101, A20, H⟩ := H
  replace H : (some (wrap64 ((wrap64 (16 * t101)) + 12))) = some r := H
  have A2 := Aside0.mk A20
  clear A20
  obtain rfl := Option.some.inj H
  go_enter Try.func27, Try.ntmps27
  go_wp2_with (first | ((with_reducible refine gate_callee (f := 25) rfl ?_); refine goesL_ (some 4) rfl rfl Try.func25 (by kernel_rfl) rfl #[.int .i64 a0] rfl (by (try simp only [List.map_toArray, List.map_cons, List.map_nil]); first | done | rfl | (simp only [List.length_drop, List.length_take]; rfl)) ?_; (with_reducible refine (plan_Delay.calls a0 t101 _ A2.out).mono ?_); rintro e w3 ⟨rfl, hb⟩; refine ⟨_, rfl, ?_⟩; have n0_ := Aside0.mk (below_step (by repeat (first | (with_reducible first | exact HB.out | apply below_alloc | apply pw_below_drewN | apply below_drew1) | exact HB.out)) hb); clear HB; have HB := n0_; clear n0_; (try clear hb); (try clear hb2); (try clear hk); (try clear hi)))
  go_ret
  exact ⟨by first | rfl | (simp [errW_none, errW_some] <;> rfl) | (simp [*, errW_none, errW_some] <;> rfl), by repeat (first | (with_reducible first | exact HB.out | apply below_alloc | apply pw_below_drewN | apply below_drew1) | exact HB.out)⟩

/-! ### plan_Short: function 29 -/
def plan_Short.f (a0 : Int) : Option (Int) := (plan_Delay.f a0).bind fun t102 => (some (wrap64 ((wrap64 (8 * t102)) + 4)))
set_option maxHeartbeats 8000000 in
set_option maxRecDepth 100000 in
theorem plan_Short.calls (a0 : Int) (r : Int) (w : World) (h : plan_Short.f a0 = some r) :
    Calls Try.prog 29 #[.int .i64 a0] w fun e w' => e = .returned (.int .i64 r) ∧ Below w.heap.size w w' := by
  have HB := Aside0.mk (Below.refl w.heap.size w)
  have H : ((plan_Delay.f a0).bind fun t102 => (some (wrap64 ((wrap64 (8 * t102)) + 4)))) = some r := h
  clear h
  replace H := Option.bind_eq_some_iff.mp H
  obtain ⟨t102, A20, H⟩ := H
  replace H : (some (wrap64 ((wrap64 (8 * t102)) + 4))) = some r := H
  have A2 := Aside0.mk A20
  clear A20
  obtain rfl := Option.some.inj H
  go_enter Try.func29, Try.ntmps29
  go_wp2_with (first | ((with_reducible refine gate_callee (f := 25) rfl ?_); refine goesL_ (some 4) rfl rfl Try.func25 (by kernel_rfl) rfl #[.int .i64 a0] rfl (by (try simp only [List.map_toArray, List.map_cons, List.map_nil]); first | done | rfl | (simp only [List.length_drop, List.length_take]; rfl)) ?_; (with_reducible refine (plan_Delay.calls a0 t102 _ A2.out).mono ?_); rintro e w3 ⟨rfl, hb⟩; refine ⟨_, rfl, ?_⟩; have n0_ := Aside0.mk (below_step (by repeat (first | (with_reducible first | exact HB.out | apply below_alloc | apply pw_below_drewN | apply below_drew1) | exact HB.out)) hb); clear HB; have HB := n0_; clear n0_; (try clear hb); (try clear hb2); (try clear hk); (try clear hi)))
  go_ret
  exact ⟨by first | rfl | (simp [errW_none, errW_some] <;> rfl) | (simp [*, errW_none, errW_some] <;> rfl), by repeat (first | (with_reducible first | exact HB.out | apply below_alloc | apply pw_below_drewN | apply below_drew1) | exact HB.out)⟩

/-! ### plan_Window: function 30 -/
def plan_Window.f (a0 : Int) : Option (Int) := some 1
set_option maxHeartbeats 8000000 in
set_option maxRecDepth 100000 in
theorem plan_Window.calls (a0 : Int) (r : Int) (w : World) (h : plan_Window.f a0 = some r) :
    Calls Try.prog 30 #[.int .i64 a0] w fun e w' => e = .returned (.int .i64 r) ∧ Drawn0 w w' := by
  have H : (some 1) = some r := h
  clear h
  obtain rfl := Option.some.inj H
  go_enter Try.func30, Try.ntmps30
  go_wp2
  go_ret
  exact ⟨by first | rfl | (simp; done) | (simp [*]; done), by repeat (first | exact Drawn0.refl _ | apply Drawn0.step)⟩

/-! ### narrowslaw17_alive: function 24 -/
def narrowslaw17_alive.f  : Option (Bool) := (plan_Long.f 1).bind fun t103 => (if t103 = 28 then ((plan_Short.f 1).bind fun t104 => (if t104 = 12 then ((plan_Window.f 1).bind fun t105 => (some (t105 == 1))) else (some false))) else (some false))
set_option maxHeartbeats 8000000 in
set_option maxRecDepth 100000 in
theorem narrowslaw17_alive.calls  (r : Bool) (w : World) (h : narrowslaw17_alive.f  = some r) :
    Calls Try.prog 24 #[] w fun e w' => e = .returned (.bool r) ∧ Below w.heap.size w w' := by
  have HB := Aside0.mk (Below.refl w.heap.size w)
  have H : ((plan_Long.f 1).bind fun t103 => (if t103 = 28 then ((plan_Short.f 1).bind fun t104 => (if t104 = 12 then ((plan_Window.f 1).bind fun t105 => (some (t105 == 1))) else (some false))) else (some false))) = some r := h
  clear h
  replace H := Option.bind_eq_some_iff.mp H
  obtain ⟨t103, A10, H⟩ := H
  replace H : (if t103 = 28 then ((plan_Short.f 1).bind fun t104 => (if t104 = 12 then ((plan_Window.f 1).bind fun t105 => (some (t105 == 1))) else (some false))) else (some false)) = some r := H
  have A1 := Aside0.mk A10
  clear A10
  by_cases c2 : t103 = 28
  · rw [if_pos c2] at H
    have c2b0 : (t103 == 28) = true := beq_iff_eq.mpr c2
    have c2b1 : (t103 != 28) = false := bne_eq_false_iff_eq.mpr c2
    clear c2
    replace H := Option.bind_eq_some_iff.mp H
    obtain ⟨t104, A30, H⟩ := H
    replace H : (if t104 = 12 then ((plan_Window.f 1).bind fun t105 => (some (t105 == 1))) else (some false)) = some r := H
    have A3 := Aside0.mk A30
    clear A30
    by_cases c4 : t104 = 12
    · rw [if_pos c4] at H
      have c4b0 : (t104 == 12) = true := beq_iff_eq.mpr c4
      have c4b1 : (t104 != 12) = false := bne_eq_false_iff_eq.mpr c4
      clear c4
      replace H := Option.bind_eq_some_iff.mp H
      obtain ⟨t105, A50, H⟩ := H
      replace H : (some (t105 == 1)) = some r := H
      have A5 := Aside0.mk A50
      clear A50
      obtain rfl := Option.some.inj H
      go_enter Try.func24, Try.ntmps24
      go_wp2_with (first | ((with_reducible refine gate_callee (f := 27) rfl ?_); refine goesL_ (some 1) rfl rfl Try.func27 (by kernel_rfl) rfl #[.int .i64 1] rfl (by (try simp only [List.map_toArray, List.map_cons, List.map_nil]); first | done | rfl | (simp only [List.length_drop, List.length_take]; rfl)) ?_; (with_reducible refine (plan_Long.calls 1 t103 _ A1.out).mono ?_); rintro e w6 ⟨rfl, hb⟩; refine ⟨_, rfl, ?_⟩; have n0_ := Aside0.mk (below_step (by repeat (first | (with_reducible first | exact HB.out | apply below_alloc | apply pw_below_drewN | apply below_drew1) | exact HB.out)) hb); clear HB; have HB := n0_; clear n0_; (try clear hb); (try clear hb2); (try clear hk); (try clear hi)) | (go_at_call 29; (with_reducible refine (plan_Short.calls 1 t104 _ A3.out).mono ?_); rintro e w7 ⟨rfl, hb⟩; have n0_ := Aside0.mk (below_step (by repeat (first | (with_reducible first | exact HB.out | apply below_alloc | apply pw_below_drewN | apply below_drew1) | exact HB.out)) hb); clear HB; have HB := n0_; clear n0_; (try clear hb); (try clear hb2); (try clear hk); (try clear hi)) | (go_at_call 30; (with_reducible refine (plan_Window.calls 1 t105 _ A5.out).mono ?_); rintro e w' ⟨rfl, ⟨nd, rfl⟩⟩))
      go_ret
      exact ⟨by first | rfl | (simp [errW_none, errW_some] <;> rfl) | (simp [*, errW_none, errW_some] <;> rfl), by repeat (first | (with_reducible first | exact HB.out | apply below_alloc | apply pw_below_drewN | apply below_drew1) | exact HB.out)⟩
    · rw [if_neg c4] at H
      have c4b0 : (t104 == 12) = false := beq_eq_false_iff_ne.mpr c4
      have c4b1 : (t104 != 12) = true := bne_iff_ne.mpr c4
      obtain rfl := Option.some.inj H
      go_enter Try.func24, Try.ntmps24
      go_wp2_with (first | ((with_reducible refine gate_callee (f := 27) rfl ?_); refine goesL_ (some 1) rfl rfl Try.func27 (by kernel_rfl) rfl #[.int .i64 1] rfl (by (try simp only [List.map_toArray, List.map_cons, List.map_nil]); first | done | rfl | (simp only [List.length_drop, List.length_take]; rfl)) ?_; (with_reducible refine (plan_Long.calls 1 t103 _ A1.out).mono ?_); rintro e w8 ⟨rfl, hb⟩; refine ⟨_, rfl, ?_⟩; have n0_ := Aside0.mk (below_step (by repeat (first | (with_reducible first | exact HB.out | apply below_alloc | apply pw_below_drewN | apply below_drew1) | exact HB.out)) hb); clear HB; have HB := n0_; clear n0_; (try clear hb); (try clear hb2); (try clear hk); (try clear hi)) | (go_at_call 29; (with_reducible refine (plan_Short.calls 1 t104 _ A3.out).mono ?_); rintro e w9 ⟨rfl, hb⟩; have n0_ := Aside0.mk (below_step (by repeat (first | (with_reducible first | exact HB.out | apply below_alloc | apply pw_below_drewN | apply below_drew1) | exact HB.out)) hb); clear HB; have HB := n0_; clear n0_; (try clear hb); (try clear hb2); (try clear hk); (try clear hi)))
      go_ret
      exact ⟨by first | rfl | (simp [errW_none, errW_some] <;> rfl) | (simp [*, errW_none, errW_some] <;> rfl), by repeat (first | (with_reducible first | exact HB.out | apply below_alloc | apply pw_below_drewN | apply below_drew1) | exact HB.out)⟩
  · rw [if_neg c2] at H
    have c2b0 : (t103 == 28) = false := beq_eq_false_iff_ne.mpr c2
    have c2b1 : (t103 != 28) = true := bne_iff_ne.mpr c2
    obtain rfl := Option.some.inj H
    go_enter Try.func24, Try.ntmps24
    go_wp2_with (first | ((with_reducible refine gate_callee (f := 27) rfl ?_); refine goesL_ (some 1) rfl rfl Try.func27 (by kernel_rfl) rfl #[.int .i64 1] rfl (by (try simp only [List.map_toArray, List.map_cons, List.map_nil]); first | done | rfl | (simp only [List.length_drop, List.length_take]; rfl)) ?_; (with_reducible refine (plan_Long.calls 1 t103 _ A1.out).mono ?_); rintro e w10 ⟨rfl, hb⟩; refine ⟨_, rfl, ?_⟩; have n0_ := Aside0.mk (below_step (by repeat (first | (with_reducible first | exact HB.out | apply below_alloc | apply pw_below_drewN | apply below_drew1) | exact HB.out)) hb); clear HB; have HB := n0_; clear n0_; (try clear hb); (try clear hb2); (try clear hk); (try clear hi)))
    go_ret
    exact ⟨by first | rfl | (simp [errW_none, errW_some] <;> rfl) | (simp [*, errW_none, errW_some] <;> rfl), by repeat (first | (with_reducible first | exact HB.out | apply below_alloc | apply pw_below_drewN | apply below_drew1) | exact HB.out)⟩

/-! ### plan_times: function 96 -/
def plan_times.l0 : Nat → List Int → Int → Int → Option (Bool)
  | 0, _, _, _ => none
  | k + 1, x5, x6, x7 => if x7 < x6 then (if 0 ≤ x7 then (if x7 < (x5.length : Int) then (if (rd x5 x7) < 0 then (some false) else (if (rd x5 x7) > 1099511627776 then (some false) else (plan_times.l0 k x5 x6 (wrap64 (x7 + 1))))) else (none)) else (none)) else (some true)
def plan_times.f (k : Nat) (l0 : List Int) : Option (Bool) := plan_times.l0 k l0 (l0.length : Int) 0
theorem plan_times.mono_l : ∀ k, (∀ y0 y1 y2, LeO (plan_times.l0 k y0 y1 y2) (plan_times.l0 (k + 1) y0 y1 y2))
  | 0 => fun _ _ _ r h => by simp [plan_times.l0] at h
  | k + 1 => by
    have ih0 := plan_times.mono_l k
    · intro y0 y1 y2
      unfold plan_times.l0
      repeat' first
      | (with_reducible exact ih0 _ _ _)
      | (with_reducible exact LeO.refl _)
      | (with_reducible exact LeO.none _)
      | (with_reducible refine LeO.ite ?_ ?_)
      | (with_reducible refine LeO.bind ?_ (fun _ => ?_))
      | exact ih0 _ _ _
      | exact LeO.none _
      | refine LeO.ite ?_ ?_
      | refine LeO.bind ?_ (fun _ => ?_)
theorem plan_times.mono : ∀ a0 k, LeO (plan_times.f k a0) (plan_times.f (k + 1) a0) := by
  intro a0 k
  have ih0 := plan_times.mono_l k
  unfold plan_times.f
  repeat' first
      | (with_reducible exact ih0 _ _ _)
      | (with_reducible exact LeO.refl _)
      | (with_reducible exact LeO.none _)
      | (with_reducible refine LeO.ite ?_ ?_)
      | (with_reducible refine LeO.bind ?_ (fun _ => ?_))
      | exact ih0 _ _ _
      | exact LeO.none _
      | refine LeO.ite ?_ ?_
      | refine LeO.bind ?_ (fun _ => ?_)
set_option maxHeartbeats 8000000 in
set_option maxRecDepth 100000 in
theorem plan_times.calls (k : Nat) (A0 : Option Addr) (c0 : Nat) (l0 : List Int) (r : Bool) (w : World) (hr0 : Kd.C (Kd.int .i64) w A0 l0.length l0) (hc0 : l0.length ≤ c0) (h : plan_times.f k l0 = some r) :
    Calls Try.prog 96 #[.slice A0 l0.length c0] w fun e w' => e = .returned (.bool r) ∧ Drawn0 w w' := by
  have HR0 := Aside0.mk hr0
  have HC0 := Aside0.mk hc0
  clear hr0 hc0
  have H : (plan_times.l0 k l0 (l0.length : Int) 0) = some r := h
  clear h
  have H' := Aside0.mk H
  clear H
  go_enter Try.func96, Try.ntmps96
  go_wp2
  go_loopg [7] k (fun kq v7 w' => ∃ (x7_1 : Int), v7 = .int .i64 x7_1 ∧ Aside0 (plan_times.l0 kq l0 (l0.length : Int) x7_1 = some r) ∧ Aside0 (kq ≤ k) ∧ Drawn0 w w')
  case atStart => exact ⟨(0), (by first | rfl | (simp; done) | (simp [*]; done)), H', ⟨Nat.le_refl _⟩, by repeat (first | exact Drawn0.refl _ | apply Drawn0.step)⟩
  case round =>
    clear H'
    obtain ⟨x7_1, rfl, HA, HK1, ⟨m1, rfl⟩⟩ := hrel
    cases gk with
    | zero => exact absurd HA.out (by simp [plan_times.l0])
    | succ k1 =>
      have H := HA.out
      clear HA
      simp only [plan_times.l0] at H
      by_cases c2 : x7_1 < (l0.length : Int)
      · rw [if_pos c2] at H
        have c2b0 : decide (x7_1 < (l0.length : Int)) = true := decide_eq_true c2
        clear c2
        by_cases c3 : 0 ≤ x7_1
        · rw [if_pos c3] at H
          have c3b0 : decide (0 ≤ x7_1) = true := decide_eq_true c3
          clear c3
          by_cases c4 : x7_1 < (l0.length : Int)
          · rw [if_pos c4] at H
            have c4b0 : decide (x7_1 < (l0.length : Int)) = true := decide_eq_true c4
            clear c4
            by_cases c5 : (rd l0 x7_1) < 0
            · rw [if_pos c5] at H
              have c5b0 : decide ((rd l0 x7_1) < 0) = true := decide_eq_true c5
              clear c5
              obtain rfl := Option.some.inj H
              have p106 : 0 ≤ (x7_1 : Int) := of_decide_eq_true (by first | (with_reducible assumption) | assumption)
              have q106 : x7_1 < (l0.length : Int) := of_decide_eq_true (by first | (with_reducible assumption) | assumption)
              obtain ⟨ad106, e106, hx106_0⟩ := Kd.at_int HR0.out x7_1 p106 q106
              cases e106
              replace p106 := eq_true p106
              replace q106 := eq_true q106
              go_wp2
              go_ret
              exact ⟨by first | rfl | (simp; done) | (simp [*]; done), by repeat (first | exact Drawn0.refl _ | apply Drawn0.step)⟩
            · rw [if_neg c5] at H
              have c5b0 : decide ((rd l0 x7_1) < 0) = false := decide_eq_false c5
              clear c5
              by_cases c6 : (rd l0 x7_1) > 1099511627776
              · rw [if_pos c6] at H
                have c6b0 : decide (1099511627776 < (rd l0 x7_1)) = true := decide_eq_true c6
                clear c6
                obtain rfl := Option.some.inj H
                have p106 : 0 ≤ (x7_1 : Int) := of_decide_eq_true (by first | (with_reducible assumption) | assumption)
                have q106 : x7_1 < (l0.length : Int) := of_decide_eq_true (by first | (with_reducible assumption) | assumption)
                obtain ⟨ad106, e106, hx106_0⟩ := Kd.at_int HR0.out x7_1 p106 q106
                cases e106
                replace p106 := eq_true p106
                replace q106 := eq_true q106
                go_wp2
                go_ret
                exact ⟨by first | rfl | (simp; done) | (simp [*]; done), by repeat (first | exact Drawn0.refl _ | apply Drawn0.step)⟩
              · rw [if_neg c6] at H
                have c6b0 : decide (1099511627776 < (rd l0 x7_1)) = false := decide_eq_false c6
                clear c6
                have H' := Aside0.mk H
                clear H
                have p106 : 0 ≤ (x7_1 : Int) := of_decide_eq_true (by first | (with_reducible assumption) | assumption)
                have q106 : x7_1 < (l0.length : Int) := of_decide_eq_true (by first | (with_reducible assumption) | assumption)
                obtain ⟨ad106, e106, hx106_0⟩ := Kd.at_int HR0.out x7_1 p106 q106
                cases e106
                replace p106 := eq_true p106
                replace q106 := eq_true q106
                go_wp2
                go_roundg k1
                case measure => have := HK1.out; omega
                case rel => exact ⟨(wrap64 (x7_1 + 1)), (by first | rfl | (simp; done) | (simp [*]; done)), H', ⟨by have := HK1.out; omega⟩, by repeat (first | exact Drawn0.refl _ | apply Drawn0.step)⟩
          · rw [if_neg c4] at H
            exact absurd H (by simp)
        · rw [if_neg c3] at H
          exact absurd H (by simp)
      · rw [if_neg c2] at H
        have c2b0 : decide (x7_1 < (l0.length : Int)) = false := decide_eq_false c2
        clear c2
        obtain rfl := Option.some.inj H
        go_wp2
        go_ret
        exact ⟨by first | rfl | (simp; done) | (simp [*]; done), by repeat (first | exact Drawn0.refl _ | apply Drawn0.step)⟩

/-! ### plan_far: function 77 -/
def plan_far.f (k : Nat) (a0 : Int) (a1 : Int) (a2 : Int) : Option (Bool) := (plan_times.f k (([a0, a1] : List Int))).bind fun t110 => (if t110 = true then (some (decide ((wrap64 (a1 - a0)) > a2))) else (some false))
theorem plan_far.mono : ∀ a0 a1 a2 k, LeO (plan_far.f k a0 a1 a2) (plan_far.f (k + 1) a0 a1 a2) := by
  intro a0 a1 a2 k
  unfold plan_far.f
  repeat' first
      | (with_reducible exact plan_times.mono _ _)
      | (with_reducible exact LeO.refl _)
      | (with_reducible exact LeO.none _)
      | (with_reducible refine LeO.ite ?_ ?_)
      | (with_reducible refine LeO.bind ?_ (fun _ => ?_))
      | exact plan_times.mono _ _
      | exact LeO.none _
      | refine LeO.ite ?_ ?_
      | refine LeO.bind ?_ (fun _ => ?_)
set_option maxHeartbeats 8000000 in
set_option maxRecDepth 100000 in
theorem plan_far.calls (k : Nat) (a0 : Int) (a1 : Int) (a2 : Int) (r : Bool) (w : World) (h : plan_far.f k a0 a1 a2 = some r) :
    Calls Try.prog 77 #[.int .i64 a0, .int .i64 a1, .int .i64 a2] w fun e w' => e = .returned (.bool r) ∧ Below w.heap.size w w' := by
  have HB := Aside0.mk (Below.refl w.heap.size w)
  have H : ((plan_times.f k (([a0, a1] : List Int))).bind fun t110 => (if t110 = true then (some (decide ((wrap64 (a1 - a0)) > a2))) else (some false))) = some r := h
  clear h
  obtain ⟨y107, hy107⟩ : ∃ y_ : List Int, y_ = (([a0, a1] : List Int)) := ⟨_, rfl⟩
  replace H : ((plan_times.f k y107).bind fun t110 => (if t110 = true then (some (decide ((wrap64 (a1 - a0)) > a2))) else (some false))) = some r := by first | (rw [hy107]; with_reducible exact H) | (have H2_ := (Option.bind_some _ _).symm.trans H; rw [hy107]; with_reducible exact H2_) | (have H2_ := (Option.bind_some _ _).symm.trans H; with_reducible exact H2_) | with_reducible exact H | (rw [hy107]; exact H) | exact H
  have Ny107 := Aside0.mk hy107
  clear hy107
  replace H := Option.bind_eq_some_iff.mp H
  obtain ⟨t110, A40, H⟩ := H
  replace H : (if t110 = true then (some (decide ((wrap64 (a1 - a0)) > a2))) else (some false)) = some r := H
  have A4 := Aside0.mk A40
  clear A40
  by_cases c5 : t110 = true
  · subst c5
    have H1 : (some (decide ((wrap64 (a1 - a0)) > a2))) = some r := by rw [if_pos rfl] at H; exact H
    clear H
    have H := H1
    clear H1
    obtain rfl := Option.some.inj H
    go_enter Try.func77, Try.ntmps77
    go_wp2_with (first | ((with_reducible refine gate_dst (N := 9) rfl ?_); refine Kd.R_lit (Kd.int .i64) _ 3 ?hg (N := 9) ?hd (xs := ([a0, a1] : List Int)) (inner := [.int .i64 a0, .int .i64 a1]) (ok := fun _ => True) (okp := fun _ => True) ?hr ?hp (fun _ hk => hk) trivial (Below.refl _ _) (Nat.le_refl _) (by simp) ?_; (case hd => rfl); (case hg => rfl); (case hr => first | (go_simp; done) | (go_simp; rfl)); (case hp => exact (Reps.one (show Kd.M (Kd.int .i64) _ _ _ a0 [.int .i64 a0] from rfl) (Reps.one (show Kd.M (Kd.int .i64) _ _ _ a1 [.int .i64 a1] from rfl) (Reps.none _ _)))); intro v108 w6 ho7 hb hg_ hnew_; clear hg_ hnew_; (first | rw [← Ny107.out] at ho7 | (simp only [Int.reduceToNat] at ho7; rw [← Ny107.out] at ho7)); have n0_ := Aside0.mk (Kd.R_lower ho7 (below_size (by repeat (first | (with_reducible first | exact HB.out | apply below_alloc | apply pw_below_drewN | apply below_drew1) | exact HB.out)))); have n1_ := Aside0.mk (below_step (by repeat (first | (with_reducible first | exact HB.out | apply below_alloc | apply pw_below_drewN | apply below_drew1) | exact HB.out)) hb); clear HB; have HO109 := n0_; have HB := n1_; clear n0_ n1_; clear hb ho7; obtain ⟨Ao8, co8, eo8⟩ := Kd.R_slice HO109.out; subst eo8) | ((with_reducible refine gate_callee (f := 96) rfl ?_); refine goesL_ (some 10) rfl rfl Try.func96 (by kernel_rfl) rfl #[.slice Ao8 y107.length co8] rfl (by (try simp only [List.map_toArray, List.map_cons, List.map_nil]); first | done | rfl | (simp only [List.length_drop, List.length_take]; rfl)) ?_; (with_reducible refine (plan_times.calls k _ _ y107 true _ ?side1 ?side2 A4.out).mono ?_); (case side1 => repeat (first | exact (Kd.R_reads' HO109.out).2.2 | (with_reducible refine Kd.C_alloc ?_ _) | (with_reducible refine Kd.C_drewN ?_ _) | (with_reducible refine Kd.C_drew ?_))); (case side2 => exact (Kd.R_reads' HO109.out).2.1); rintro e w' ⟨rfl, ⟨nd, rfl⟩⟩; refine ⟨_, rfl, ?_⟩))
    go_ret
    exact ⟨by first | rfl | (simp [errW_none, errW_some] <;> rfl) | (simp [*, errW_none, errW_some] <;> rfl), by repeat (first | (with_reducible first | exact HB.out | apply below_alloc | apply pw_below_drewN | apply below_drew1) | exact HB.out)⟩
  · replace c5 := Bool.eq_false_iff.mpr c5
    subst c5
    have H1 : (some false) = some r := by rw [if_neg (show ¬ (false = true) by decide)] at H; exact H
    clear H
    have H := H1
    clear H1
    obtain rfl := Option.some.inj H
    go_enter Try.func77, Try.ntmps77
    go_wp2_with (first | ((with_reducible refine gate_dst (N := 9) rfl ?_); refine Kd.R_lit (Kd.int .i64) _ 3 ?hg (N := 9) ?hd (xs := ([a0, a1] : List Int)) (inner := [.int .i64 a0, .int .i64 a1]) (ok := fun _ => True) (okp := fun _ => True) ?hr ?hp (fun _ hk => hk) trivial (Below.refl _ _) (Nat.le_refl _) (by simp) ?_; (case hd => rfl); (case hg => rfl); (case hr => first | (go_simp; done) | (go_simp; rfl)); (case hp => exact (Reps.one (show Kd.M (Kd.int .i64) _ _ _ a0 [.int .i64 a0] from rfl) (Reps.one (show Kd.M (Kd.int .i64) _ _ _ a1 [.int .i64 a1] from rfl) (Reps.none _ _)))); intro v108 w9 ho10 hb hg_ hnew_; clear hg_ hnew_; (first | rw [← Ny107.out] at ho10 | (simp only [Int.reduceToNat] at ho10; rw [← Ny107.out] at ho10)); have n0_ := Aside0.mk (Kd.R_lower ho10 (below_size (by repeat (first | (with_reducible first | exact HB.out | apply below_alloc | apply pw_below_drewN | apply below_drew1) | exact HB.out)))); have n1_ := Aside0.mk (below_step (by repeat (first | (with_reducible first | exact HB.out | apply below_alloc | apply pw_below_drewN | apply below_drew1) | exact HB.out)) hb); clear HB; have HO109 := n0_; have HB := n1_; clear n0_ n1_; clear hb ho10; obtain ⟨Ao11, co11, eo11⟩ := Kd.R_slice HO109.out; subst eo11) | ((with_reducible refine gate_callee (f := 96) rfl ?_); refine goesL_ (some 10) rfl rfl Try.func96 (by kernel_rfl) rfl #[.slice Ao11 y107.length co11] rfl (by (try simp only [List.map_toArray, List.map_cons, List.map_nil]); first | done | rfl | (simp only [List.length_drop, List.length_take]; rfl)) ?_; (with_reducible refine (plan_times.calls k _ _ y107 false _ ?side1 ?side2 A4.out).mono ?_); (case side1 => repeat (first | exact (Kd.R_reads' HO109.out).2.2 | (with_reducible refine Kd.C_alloc ?_ _) | (with_reducible refine Kd.C_drewN ?_ _) | (with_reducible refine Kd.C_drew ?_))); (case side2 => exact (Kd.R_reads' HO109.out).2.1); rintro e w' ⟨rfl, ⟨nd, rfl⟩⟩; refine ⟨_, rfl, ?_⟩))
    go_ret
    exact ⟨by first | rfl | (simp [errW_none, errW_some] <;> rfl) | (simp [*, errW_none, errW_some] <;> rfl), by repeat (first | (with_reducible first | exact HB.out | apply below_alloc | apply pw_below_drewN | apply below_drew1) | exact HB.out)⟩

/-! ### plan_Mirror: function 26 -/
def plan_Mirror.f (k : Nat) (a0 : Int) (a1 : Int) (a2 : Int) : Option (Bool) := (plan_Short.f a2).bind fun t111 => ((plan_Delay.f a2).bind fun t112 => ((plan_far.f k a0 a1 (wrap64 ((wrap64 (t111 + (wrap64 (3 * t112)))) + 1))).bind fun t113 => (some t113)))
theorem plan_Mirror.mono : ∀ a0 a1 a2 k, LeO (plan_Mirror.f k a0 a1 a2) (plan_Mirror.f (k + 1) a0 a1 a2) := by
  intro a0 a1 a2 k
  unfold plan_Mirror.f
  repeat' first
      | (with_reducible exact plan_far.mono _ _ _ _)
      | (with_reducible exact LeO.refl _)
      | (with_reducible exact LeO.none _)
      | (with_reducible refine LeO.ite ?_ ?_)
      | (with_reducible refine LeO.bind ?_ (fun _ => ?_))
      | exact plan_far.mono _ _ _ _
      | exact LeO.none _
      | refine LeO.ite ?_ ?_
      | refine LeO.bind ?_ (fun _ => ?_)
set_option maxHeartbeats 8000000 in
set_option maxRecDepth 100000 in
theorem plan_Mirror.calls (k : Nat) (a0 : Int) (a1 : Int) (a2 : Int) (r : Bool) (w : World) (h : plan_Mirror.f k a0 a1 a2 = some r) :
    Calls Try.prog 26 #[.int .i64 a0, .int .i64 a1, .int .i64 a2] w fun e w' => e = .returned (.bool r) ∧ Below w.heap.size w w' := by
  have HB := Aside0.mk (Below.refl w.heap.size w)
  have H : ((plan_Short.f a2).bind fun t111 => ((plan_Delay.f a2).bind fun t112 => ((plan_far.f k a0 a1 (wrap64 ((wrap64 (t111 + (wrap64 (3 * t112)))) + 1))).bind fun t113 => (some t113)))) = some r := h
  clear h
  replace H := Option.bind_eq_some_iff.mp H
  obtain ⟨t111, A40, H⟩ := H
  replace H : ((plan_Delay.f a2).bind fun t112 => ((plan_far.f k a0 a1 (wrap64 ((wrap64 (t111 + (wrap64 (3 * t112)))) + 1))).bind fun t113 => (some t113))) = some r := H
  have A4 := Aside0.mk A40
  clear A40
  replace H := Option.bind_eq_some_iff.mp H
  obtain ⟨t112, A50, H⟩ := H
  replace H : ((plan_far.f k a0 a1 (wrap64 ((wrap64 (t111 + (wrap64 (3 * t112)))) + 1))).bind fun t113 => (some t113)) = some r := H
  have A5 := Aside0.mk A50
  clear A50
  replace H := Option.bind_eq_some_iff.mp H
  obtain ⟨t113, A60, H⟩ := H
  replace H : (some t113) = some r := H
  have A6 := Aside0.mk A60
  clear A60
  obtain rfl := Option.some.inj H
  go_enter Try.func26, Try.ntmps26
  go_wp2_with (first | ((with_reducible refine gate_callee (f := 29) rfl ?_); refine goesL_ (some 10) rfl rfl Try.func29 (by kernel_rfl) rfl #[.int .i64 a2] rfl (by (try simp only [List.map_toArray, List.map_cons, List.map_nil]); first | done | rfl | (simp only [List.length_drop, List.length_take]; rfl)) ?_; (with_reducible refine (plan_Short.calls a2 t111 _ A4.out).mono ?_); rintro e w7 ⟨rfl, hb⟩; refine ⟨_, rfl, ?_⟩; have n0_ := Aside0.mk (below_step (by repeat (first | (with_reducible first | exact HB.out | apply below_alloc | apply pw_below_drewN | apply below_drew1) | exact HB.out)) hb); clear HB; have HB := n0_; clear n0_; (try clear hb); (try clear hb2); (try clear hk); (try clear hi)) | ((with_reducible refine gate_callee (f := 25) rfl ?_); refine goesL_ (some 12) rfl rfl Try.func25 (by kernel_rfl) rfl #[.int .i64 a2] rfl (by (try simp only [List.map_toArray, List.map_cons, List.map_nil]); first | done | rfl | (simp only [List.length_drop, List.length_take]; rfl)) ?_; (with_reducible refine (plan_Delay.calls a2 t112 _ A5.out).mono ?_); rintro e w8 ⟨rfl, hb⟩; refine ⟨_, rfl, ?_⟩; have n0_ := Aside0.mk (below_step (by repeat (first | (with_reducible first | exact HB.out | apply below_alloc | apply pw_below_drewN | apply below_drew1) | exact HB.out)) hb); clear HB; have HB := n0_; clear n0_; (try clear hb); (try clear hb2); (try clear hk); (try clear hi)) | ((with_reducible refine gate_callee (f := 77) rfl ?_); refine goesL_ (some 16) rfl rfl Try.func77 (by kernel_rfl) rfl #[.int .i64 a0, .int .i64 a1, .int .i64 (wrap64 ((wrap64 (t111 + (wrap64 (3 * t112)))) + 1))] rfl (by (try simp only [List.map_toArray, List.map_cons, List.map_nil]); first | done | rfl | (simp only [List.length_drop, List.length_take]; rfl)) ?_; (with_reducible refine (plan_far.calls k a0 a1 (wrap64 ((wrap64 (t111 + (wrap64 (3 * t112)))) + 1)) t113 _ A6.out).mono ?_); rintro e w9 ⟨rfl, hb⟩; refine ⟨_, rfl, ?_⟩; have n0_ := Aside0.mk (below_step (by repeat (first | (with_reducible first | exact HB.out | apply below_alloc | apply pw_below_drewN | apply below_drew1) | exact HB.out)) hb); clear HB; have HB := n0_; clear n0_; (try clear hb); (try clear hb2); (try clear hk); (try clear hi)))
  go_ret
  exact ⟨by first | rfl | (simp [errW_none, errW_some] <;> rfl) | (simp [*, errW_none, errW_some] <;> rfl), by repeat (first | (with_reducible first | exact HB.out | apply below_alloc | apply pw_below_drewN | apply below_drew1) | exact HB.out)⟩

/-! ### plan_Release: function 28 -/
def plan_Release.f (k : Nat) (a0 : Int) (a1 : Int) (a2 : Int) : Option (Bool) := (plan_Delay.f a2).bind fun t114 => ((plan_far.f k a0 a1 (wrap64 (t114 + 1))).bind fun t115 => (some t115))
theorem plan_Release.mono : ∀ a0 a1 a2 k, LeO (plan_Release.f k a0 a1 a2) (plan_Release.f (k + 1) a0 a1 a2) := by
  intro a0 a1 a2 k
  unfold plan_Release.f
  repeat' first
      | (with_reducible exact plan_far.mono _ _ _ _)
      | (with_reducible exact LeO.refl _)
      | (with_reducible exact LeO.none _)
      | (with_reducible refine LeO.ite ?_ ?_)
      | (with_reducible refine LeO.bind ?_ (fun _ => ?_))
      | exact plan_far.mono _ _ _ _
      | exact LeO.none _
      | refine LeO.ite ?_ ?_
      | refine LeO.bind ?_ (fun _ => ?_)
set_option maxHeartbeats 8000000 in
set_option maxRecDepth 100000 in
theorem plan_Release.calls (k : Nat) (a0 : Int) (a1 : Int) (a2 : Int) (r : Bool) (w : World) (h : plan_Release.f k a0 a1 a2 = some r) :
    Calls Try.prog 28 #[.int .i64 a0, .int .i64 a1, .int .i64 a2] w fun e w' => e = .returned (.bool r) ∧ Below w.heap.size w w' := by
  have HB := Aside0.mk (Below.refl w.heap.size w)
  have H : ((plan_Delay.f a2).bind fun t114 => ((plan_far.f k a0 a1 (wrap64 (t114 + 1))).bind fun t115 => (some t115))) = some r := h
  clear h
  replace H := Option.bind_eq_some_iff.mp H
  obtain ⟨t114, A40, H⟩ := H
  replace H : ((plan_far.f k a0 a1 (wrap64 (t114 + 1))).bind fun t115 => (some t115)) = some r := H
  have A4 := Aside0.mk A40
  clear A40
  replace H := Option.bind_eq_some_iff.mp H
  obtain ⟨t115, A50, H⟩ := H
  replace H : (some t115) = some r := H
  have A5 := Aside0.mk A50
  clear A50
  obtain rfl := Option.some.inj H
  go_enter Try.func28, Try.ntmps28
  go_wp2_with (first | ((with_reducible refine gate_callee (f := 25) rfl ?_); refine goesL_ (some 10) rfl rfl Try.func25 (by kernel_rfl) rfl #[.int .i64 a2] rfl (by (try simp only [List.map_toArray, List.map_cons, List.map_nil]); first | done | rfl | (simp only [List.length_drop, List.length_take]; rfl)) ?_; (with_reducible refine (plan_Delay.calls a2 t114 _ A4.out).mono ?_); rintro e w6 ⟨rfl, hb⟩; refine ⟨_, rfl, ?_⟩; have n0_ := Aside0.mk (below_step (by repeat (first | (with_reducible first | exact HB.out | apply below_alloc | apply pw_below_drewN | apply below_drew1) | exact HB.out)) hb); clear HB; have HB := n0_; clear n0_; (try clear hb); (try clear hb2); (try clear hk); (try clear hi)) | ((with_reducible refine gate_callee (f := 77) rfl ?_); refine goesL_ (some 12) rfl rfl Try.func77 (by kernel_rfl) rfl #[.int .i64 a0, .int .i64 a1, .int .i64 (wrap64 (t114 + 1))] rfl (by (try simp only [List.map_toArray, List.map_cons, List.map_nil]); first | done | rfl | (simp only [List.length_drop, List.length_take]; rfl)) ?_; (with_reducible refine (plan_far.calls k a0 a1 (wrap64 (t114 + 1)) t115 _ A5.out).mono ?_); rintro e w7 ⟨rfl, hb⟩; refine ⟨_, rfl, ?_⟩; have n0_ := Aside0.mk (below_step (by repeat (first | (with_reducible first | exact HB.out | apply below_alloc | apply pw_below_drewN | apply below_drew1) | exact HB.out)) hb); clear HB; have HB := n0_; clear n0_; (try clear hb); (try clear hb2); (try clear hk); (try clear hi)))
  go_ret
  exact ⟨by first | rfl | (simp [errW_none, errW_some] <;> rfl) | (simp [*, errW_none, errW_some] <;> rfl), by repeat (first | (with_reducible first | exact HB.out | apply below_alloc | apply pw_below_drewN | apply below_drew1) | exact HB.out)⟩

/-! ### plan_Due: function 31 -/
def plan_Due.f (k : Nat) (a0 : Int) (a1 : Int) (a2 : Int) : Option (Bool) := (plan_Delay.f a2).bind fun t116 => ((plan_far.f k a0 a1 t116).bind fun t117 => (some t117))
theorem plan_Due.mono : ∀ a0 a1 a2 k, LeO (plan_Due.f k a0 a1 a2) (plan_Due.f (k + 1) a0 a1 a2) := by
  intro a0 a1 a2 k
  unfold plan_Due.f
  repeat' first
      | (with_reducible exact plan_far.mono _ _ _ _)
      | (with_reducible exact LeO.refl _)
      | (with_reducible exact LeO.none _)
      | (with_reducible refine LeO.ite ?_ ?_)
      | (with_reducible refine LeO.bind ?_ (fun _ => ?_))
      | exact plan_far.mono _ _ _ _
      | exact LeO.none _
      | refine LeO.ite ?_ ?_
      | refine LeO.bind ?_ (fun _ => ?_)
set_option maxHeartbeats 8000000 in
set_option maxRecDepth 100000 in
theorem plan_Due.calls (k : Nat) (a0 : Int) (a1 : Int) (a2 : Int) (r : Bool) (w : World) (h : plan_Due.f k a0 a1 a2 = some r) :
    Calls Try.prog 31 #[.int .i64 a0, .int .i64 a1, .int .i64 a2] w fun e w' => e = .returned (.bool r) ∧ Below w.heap.size w w' := by
  have HB := Aside0.mk (Below.refl w.heap.size w)
  have H : ((plan_Delay.f a2).bind fun t116 => ((plan_far.f k a0 a1 t116).bind fun t117 => (some t117))) = some r := h
  clear h
  replace H := Option.bind_eq_some_iff.mp H
  obtain ⟨t116, A40, H⟩ := H
  replace H : ((plan_far.f k a0 a1 t116).bind fun t117 => (some t117)) = some r := H
  have A4 := Aside0.mk A40
  clear A40
  replace H := Option.bind_eq_some_iff.mp H
  obtain ⟨t117, A50, H⟩ := H
  replace H : (some t117) = some r := H
  have A5 := Aside0.mk A50
  clear A50
  obtain rfl := Option.some.inj H
  go_enter Try.func31, Try.ntmps31
  go_wp2_with (first | ((with_reducible refine gate_callee (f := 25) rfl ?_); refine goesL_ (some 10) rfl rfl Try.func25 (by kernel_rfl) rfl #[.int .i64 a2] rfl (by (try simp only [List.map_toArray, List.map_cons, List.map_nil]); first | done | rfl | (simp only [List.length_drop, List.length_take]; rfl)) ?_; (with_reducible refine (plan_Delay.calls a2 t116 _ A4.out).mono ?_); rintro e w6 ⟨rfl, hb⟩; refine ⟨_, rfl, ?_⟩; have n0_ := Aside0.mk (below_step (by repeat (first | (with_reducible first | exact HB.out | apply below_alloc | apply pw_below_drewN | apply below_drew1) | exact HB.out)) hb); clear HB; have HB := n0_; clear n0_; (try clear hb); (try clear hb2); (try clear hk); (try clear hi)) | ((with_reducible refine gate_callee (f := 77) rfl ?_); refine goesL_ (some 11) rfl rfl Try.func77 (by kernel_rfl) rfl #[.int .i64 a0, .int .i64 a1, .int .i64 t116] rfl (by (try simp only [List.map_toArray, List.map_cons, List.map_nil]); first | done | rfl | (simp only [List.length_drop, List.length_take]; rfl)) ?_; (with_reducible refine (plan_far.calls k a0 a1 t116 t117 _ A5.out).mono ?_); rintro e w7 ⟨rfl, hb⟩; refine ⟨_, rfl, ?_⟩; have n0_ := Aside0.mk (below_step (by repeat (first | (with_reducible first | exact HB.out | apply below_alloc | apply pw_below_drewN | apply below_drew1) | exact HB.out)) hb); clear HB; have HB := n0_; clear n0_; (try clear hb); (try clear hb2); (try clear hk); (try clear hi)))
  go_ret
  exact ⟨by first | rfl | (simp [errW_none, errW_some] <;> rfl) | (simp [*, errW_none, errW_some] <;> rfl), by repeat (first | (with_reducible first | exact HB.out | apply below_alloc | apply pw_below_drewN | apply below_drew1) | exact HB.out)⟩

/-! ### narrowslaw17_PlanRises: function 5 -/
def narrowslaw17_PlanRises.j0 : Nat → Int → Int → Int → Int → Bool → Option (Bool)
  | 0, _, _, _, _, _ => none
  | k + 1, x0, x1, x2, x7, x34 => if x34 = true then (some false) else ((plan_Release.f k x1 x2 x7).bind fun t125 => (if t125 = true then ((plan_Release.f k x1 x2 x0).bind fun t126 => (if t126 = true then ((plan_Mirror.f k x1 x2 x7).bind fun t127 => (if t127 = true then ((plan_Mirror.f k x1 x2 x0).bind fun t128 => (if t128 = true then ((plan_Due.f k x1 x2 x7).bind fun t129 => (if t129 = true then ((plan_Due.f k x1 x2 x0).bind fun t130 => (some t130)) else (some true))) else (some false))) else ((plan_Due.f k x1 x2 x7).bind fun t131 => (if t131 = true then ((plan_Due.f k x1 x2 x0).bind fun t132 => (some t132)) else (some true))))) else (some false))) else ((plan_Mirror.f k x1 x2 x7).bind fun t133 => (if t133 = true then ((plan_Mirror.f k x1 x2 x0).bind fun t134 => (if t134 = true then ((plan_Due.f k x1 x2 x7).bind fun t135 => (if t135 = true then ((plan_Due.f k x1 x2 x0).bind fun t136 => (some t136)) else (some true))) else (some false))) else ((plan_Due.f k x1 x2 x7).bind fun t137 => (if t137 = true then ((plan_Due.f k x1 x2 x0).bind fun t138 => (some t138)) else (some true)))))))
def narrowslaw17_PlanRises.f (k : Nat) (a0 : Int) (a1 : Int) (a2 : Int) : Option (Bool) := (narrowslaw17_alive.f).bind fun t118 => (if t118 = true then ((plan_Short.f (wrap64 ((Int.tmod (wrap64 ((Int.tmod a0 6) + 6)) 6) + 1))).bind fun t119 => ((plan_Short.f (Int.tmod (wrap64 ((Int.tmod a0 6) + 6)) 6)).bind fun t120 => (if t119 < t120 then (narrowslaw17_PlanRises.j0 k (Int.tmod (wrap64 ((Int.tmod a0 6) + 6)) 6) a1 a2 (wrap64 ((Int.tmod (wrap64 ((Int.tmod a0 6) + 6)) 6) + 1)) true) else ((plan_Long.f (wrap64 ((Int.tmod (wrap64 ((Int.tmod a0 6) + 6)) 6) + 1))).bind fun t121 => ((plan_Long.f (Int.tmod (wrap64 ((Int.tmod a0 6) + 6)) 6)).bind fun t122 => (if t121 < t122 then (narrowslaw17_PlanRises.j0 k (Int.tmod (wrap64 ((Int.tmod a0 6) + 6)) 6) a1 a2 (wrap64 ((Int.tmod (wrap64 ((Int.tmod a0 6) + 6)) 6) + 1)) true) else ((plan_Delay.f (wrap64 ((Int.tmod (wrap64 ((Int.tmod a0 6) + 6)) 6) + 1))).bind fun t123 => ((plan_Delay.f (Int.tmod (wrap64 ((Int.tmod a0 6) + 6)) 6)).bind fun t124 => (narrowslaw17_PlanRises.j0 k (Int.tmod (wrap64 ((Int.tmod a0 6) + 6)) 6) a1 a2 (wrap64 ((Int.tmod (wrap64 ((Int.tmod a0 6) + 6)) 6) + 1)) (decide (t123 < t124))))))))))) else (some false))
theorem narrowslaw17_PlanRises.mono_l : ∀ k, (∀ y0 y1 y2 y3 y4, LeO (narrowslaw17_PlanRises.j0 k y0 y1 y2 y3 y4) (narrowslaw17_PlanRises.j0 (k + 1) y0 y1 y2 y3 y4))
  | 0 => fun _ _ _ _ _ r h => by simp [narrowslaw17_PlanRises.j0] at h
  | k + 1 => by
    have ih0 := narrowslaw17_PlanRises.mono_l k
    · intro y0 y1 y2 y3 y4
      unfold narrowslaw17_PlanRises.j0
      repeat' first
      | (with_reducible exact ih0 _ _ _ _ _)
      | (with_reducible exact plan_Due.mono _ _ _ _)
      | (with_reducible exact plan_Mirror.mono _ _ _ _)
      | (with_reducible exact plan_Release.mono _ _ _ _)
      | (with_reducible exact LeO.refl _)
      | (with_reducible exact LeO.none _)
      | (with_reducible refine LeO.ite ?_ ?_)
      | (with_reducible refine LeO.bind ?_ (fun _ => ?_))
      | exact ih0 _ _ _ _ _
      | exact plan_Due.mono _ _ _ _
      | exact plan_Mirror.mono _ _ _ _
      | exact plan_Release.mono _ _ _ _
      | exact LeO.none _
      | refine LeO.ite ?_ ?_
      | refine LeO.bind ?_ (fun _ => ?_)
theorem narrowslaw17_PlanRises.mono : ∀ a0 a1 a2 k, LeO (narrowslaw17_PlanRises.f k a0 a1 a2) (narrowslaw17_PlanRises.f (k + 1) a0 a1 a2) := by
  intro a0 a1 a2 k
  have ih0 := narrowslaw17_PlanRises.mono_l k
  unfold narrowslaw17_PlanRises.f
  repeat' first
      | (with_reducible exact ih0 _ _ _ _ _)
      | (with_reducible exact plan_Due.mono _ _ _ _)
      | (with_reducible exact plan_Mirror.mono _ _ _ _)
      | (with_reducible exact plan_Release.mono _ _ _ _)
      | (with_reducible exact LeO.refl _)
      | (with_reducible exact LeO.none _)
      | (with_reducible refine LeO.ite ?_ ?_)
      | (with_reducible refine LeO.bind ?_ (fun _ => ?_))
      | exact ih0 _ _ _ _ _
      | exact plan_Due.mono _ _ _ _
      | exact plan_Mirror.mono _ _ _ _
      | exact plan_Release.mono _ _ _ _
      | exact LeO.none _
      | refine LeO.ite ?_ ?_
      | refine LeO.bind ?_ (fun _ => ?_)
set_option maxHeartbeats 8000000 in
set_option maxRecDepth 100000 in
theorem narrowslaw17_PlanRises.calls (k : Nat) (a0 : Int) (a1 : Int) (a2 : Int) (r : Bool) (w : World) (h : narrowslaw17_PlanRises.f k a0 a1 a2 = some r) :
    Calls Try.prog 5 #[.int .i64 a0, .int .i64 a1, .int .i64 a2] w fun e w' => e = .returned (.bool r) ∧ Below w.heap.size w w' := by
  have HB := Aside0.mk (Below.refl w.heap.size w)
  have H : ((narrowslaw17_alive.f).bind fun t118 => (if t118 = true then ((plan_Short.f (wrap64 ((Int.tmod (wrap64 ((Int.tmod a0 6) + 6)) 6) + 1))).bind fun t119 => ((plan_Short.f (Int.tmod (wrap64 ((Int.tmod a0 6) + 6)) 6)).bind fun t120 => (if t119 < t120 then (narrowslaw17_PlanRises.j0 k (Int.tmod (wrap64 ((Int.tmod a0 6) + 6)) 6) a1 a2 (wrap64 ((Int.tmod (wrap64 ((Int.tmod a0 6) + 6)) 6) + 1)) true) else ((plan_Long.f (wrap64 ((Int.tmod (wrap64 ((Int.tmod a0 6) + 6)) 6) + 1))).bind fun t121 => ((plan_Long.f (Int.tmod (wrap64 ((Int.tmod a0 6) + 6)) 6)).bind fun t122 => (if t121 < t122 then (narrowslaw17_PlanRises.j0 k (Int.tmod (wrap64 ((Int.tmod a0 6) + 6)) 6) a1 a2 (wrap64 ((Int.tmod (wrap64 ((Int.tmod a0 6) + 6)) 6) + 1)) true) else ((plan_Delay.f (wrap64 ((Int.tmod (wrap64 ((Int.tmod a0 6) + 6)) 6) + 1))).bind fun t123 => ((plan_Delay.f (Int.tmod (wrap64 ((Int.tmod a0 6) + 6)) 6)).bind fun t124 => (narrowslaw17_PlanRises.j0 k (Int.tmod (wrap64 ((Int.tmod a0 6) + 6)) 6) a1 a2 (wrap64 ((Int.tmod (wrap64 ((Int.tmod a0 6) + 6)) 6) + 1)) (decide (t123 < t124))))))))))) else (some false))) = some r := h
  clear h
  replace H := Option.bind_eq_some_iff.mp H
  obtain ⟨t118, A40, H⟩ := H
  replace H : (if t118 = true then ((plan_Short.f (wrap64 ((Int.tmod (wrap64 ((Int.tmod a0 6) + 6)) 6) + 1))).bind fun t119 => ((plan_Short.f (Int.tmod (wrap64 ((Int.tmod a0 6) + 6)) 6)).bind fun t120 => (if t119 < t120 then (narrowslaw17_PlanRises.j0 k (Int.tmod (wrap64 ((Int.tmod a0 6) + 6)) 6) a1 a2 (wrap64 ((Int.tmod (wrap64 ((Int.tmod a0 6) + 6)) 6) + 1)) true) else ((plan_Long.f (wrap64 ((Int.tmod (wrap64 ((Int.tmod a0 6) + 6)) 6) + 1))).bind fun t121 => ((plan_Long.f (Int.tmod (wrap64 ((Int.tmod a0 6) + 6)) 6)).bind fun t122 => (if t121 < t122 then (narrowslaw17_PlanRises.j0 k (Int.tmod (wrap64 ((Int.tmod a0 6) + 6)) 6) a1 a2 (wrap64 ((Int.tmod (wrap64 ((Int.tmod a0 6) + 6)) 6) + 1)) true) else ((plan_Delay.f (wrap64 ((Int.tmod (wrap64 ((Int.tmod a0 6) + 6)) 6) + 1))).bind fun t123 => ((plan_Delay.f (Int.tmod (wrap64 ((Int.tmod a0 6) + 6)) 6)).bind fun t124 => (narrowslaw17_PlanRises.j0 k (Int.tmod (wrap64 ((Int.tmod a0 6) + 6)) 6) a1 a2 (wrap64 ((Int.tmod (wrap64 ((Int.tmod a0 6) + 6)) 6) + 1)) (decide (t123 < t124))))))))))) else (some false)) = some r := H
  have A4 := Aside0.mk A40
  clear A40
  by_cases c5 : t118 = true
  · subst c5
    have H1 : ((plan_Short.f (wrap64 ((Int.tmod (wrap64 ((Int.tmod a0 6) + 6)) 6) + 1))).bind fun t119 => ((plan_Short.f (Int.tmod (wrap64 ((Int.tmod a0 6) + 6)) 6)).bind fun t120 => (if t119 < t120 then (narrowslaw17_PlanRises.j0 k (Int.tmod (wrap64 ((Int.tmod a0 6) + 6)) 6) a1 a2 (wrap64 ((Int.tmod (wrap64 ((Int.tmod a0 6) + 6)) 6) + 1)) true) else ((plan_Long.f (wrap64 ((Int.tmod (wrap64 ((Int.tmod a0 6) + 6)) 6) + 1))).bind fun t121 => ((plan_Long.f (Int.tmod (wrap64 ((Int.tmod a0 6) + 6)) 6)).bind fun t122 => (if t121 < t122 then (narrowslaw17_PlanRises.j0 k (Int.tmod (wrap64 ((Int.tmod a0 6) + 6)) 6) a1 a2 (wrap64 ((Int.tmod (wrap64 ((Int.tmod a0 6) + 6)) 6) + 1)) true) else ((plan_Delay.f (wrap64 ((Int.tmod (wrap64 ((Int.tmod a0 6) + 6)) 6) + 1))).bind fun t123 => ((plan_Delay.f (Int.tmod (wrap64 ((Int.tmod a0 6) + 6)) 6)).bind fun t124 => (narrowslaw17_PlanRises.j0 k (Int.tmod (wrap64 ((Int.tmod a0 6) + 6)) 6) a1 a2 (wrap64 ((Int.tmod (wrap64 ((Int.tmod a0 6) + 6)) 6) + 1)) (decide (t123 < t124))))))))))) = some r := by rw [if_pos rfl] at H; exact H
    clear H
    have H := H1
    clear H1
    have HC6 := Aside0.mk H
    clear H
    go_enter Try.func5, Try.ntmps5
    go_upto_region 5 with (first | ((with_reducible refine gate_callee (f := 24) rfl ?_); refine goesL_ (some 8) rfl rfl Try.func24 (by kernel_rfl) rfl #[] rfl (by (try simp only [List.map_toArray, List.map_cons, List.map_nil]); first | done | rfl | (simp only [List.length_drop, List.length_take]; rfl)) ?_; (with_reducible refine (narrowslaw17_alive.calls  true _ A4.out).mono ?_); rintro e w7 ⟨rfl, hb⟩; refine ⟨_, rfl, ?_⟩; have n0_ := Aside0.mk (below_step (by repeat (first | (with_reducible first | exact HB.out | apply below_alloc | apply pw_below_drewN | apply below_drew1) | exact HB.out)) hb); clear HB; have HB := n0_; clear n0_; (try clear hb); (try clear hb2); (try clear hk); (try clear hi)))
    (try simp only [Act.put, List.setIfInBounds_toArray, List.set_cons_zero, List.set_cons_succ])
    go_cut [34] (fun v34 wc => ∃ (kq : Nat) (x34_5 : Bool), v34 = .bool x34_5 ∧ Aside0 (narrowslaw17_PlanRises.j0 kq (Int.tmod (wrap64 ((Int.tmod a0 6) + 6)) 6) a1 a2 (wrap64 ((Int.tmod (wrap64 ((Int.tmod a0 6) + 6)) 6) + 1)) x34_5 = some r) ∧ Aside0 (kq ≤ k) ∧ Aside0 (Below w.heap.size w wc))
    case first =>
      have H := HC6.out
      clear HC6
      replace H := Option.bind_eq_some_iff.mp H
      obtain ⟨t119, A80, H⟩ := H
      replace H : ((plan_Short.f (Int.tmod (wrap64 ((Int.tmod a0 6) + 6)) 6)).bind fun t120 => (if t119 < t120 then (narrowslaw17_PlanRises.j0 k (Int.tmod (wrap64 ((Int.tmod a0 6) + 6)) 6) a1 a2 (wrap64 ((Int.tmod (wrap64 ((Int.tmod a0 6) + 6)) 6) + 1)) true) else ((plan_Long.f (wrap64 ((Int.tmod (wrap64 ((Int.tmod a0 6) + 6)) 6) + 1))).bind fun t121 => ((plan_Long.f (Int.tmod (wrap64 ((Int.tmod a0 6) + 6)) 6)).bind fun t122 => (if t121 < t122 then (narrowslaw17_PlanRises.j0 k (Int.tmod (wrap64 ((Int.tmod a0 6) + 6)) 6) a1 a2 (wrap64 ((Int.tmod (wrap64 ((Int.tmod a0 6) + 6)) 6) + 1)) true) else ((plan_Delay.f (wrap64 ((Int.tmod (wrap64 ((Int.tmod a0 6) + 6)) 6) + 1))).bind fun t123 => ((plan_Delay.f (Int.tmod (wrap64 ((Int.tmod a0 6) + 6)) 6)).bind fun t124 => (narrowslaw17_PlanRises.j0 k (Int.tmod (wrap64 ((Int.tmod a0 6) + 6)) 6) a1 a2 (wrap64 ((Int.tmod (wrap64 ((Int.tmod a0 6) + 6)) 6) + 1)) (decide (t123 < t124)))))))))) = some r := H
      have A8 := Aside0.mk A80
      clear A80
      replace H := Option.bind_eq_some_iff.mp H
      obtain ⟨t120, A90, H⟩ := H
      replace H : (if t119 < t120 then (narrowslaw17_PlanRises.j0 k (Int.tmod (wrap64 ((Int.tmod a0 6) + 6)) 6) a1 a2 (wrap64 ((Int.tmod (wrap64 ((Int.tmod a0 6) + 6)) 6) + 1)) true) else ((plan_Long.f (wrap64 ((Int.tmod (wrap64 ((Int.tmod a0 6) + 6)) 6) + 1))).bind fun t121 => ((plan_Long.f (Int.tmod (wrap64 ((Int.tmod a0 6) + 6)) 6)).bind fun t122 => (if t121 < t122 then (narrowslaw17_PlanRises.j0 k (Int.tmod (wrap64 ((Int.tmod a0 6) + 6)) 6) a1 a2 (wrap64 ((Int.tmod (wrap64 ((Int.tmod a0 6) + 6)) 6) + 1)) true) else ((plan_Delay.f (wrap64 ((Int.tmod (wrap64 ((Int.tmod a0 6) + 6)) 6) + 1))).bind fun t123 => ((plan_Delay.f (Int.tmod (wrap64 ((Int.tmod a0 6) + 6)) 6)).bind fun t124 => (narrowslaw17_PlanRises.j0 k (Int.tmod (wrap64 ((Int.tmod a0 6) + 6)) 6) a1 a2 (wrap64 ((Int.tmod (wrap64 ((Int.tmod a0 6) + 6)) 6) + 1)) (decide (t123 < t124))))))))) = some r := H
      have A9 := Aside0.mk A90
      clear A90
      by_cases c10 : t119 < t120
      · rw [if_pos c10] at H
        have c10b0 : decide (t119 < t120) = true := decide_eq_true c10
        clear c10
        (first | rw [c10b0] | (simp only [i64_w, i32_w]; rw [c10b0]) | skip)
        have H' := Aside0.mk H
        clear H
        go_wp2_with (first | ((with_reducible refine gate_callee (f := 29) rfl ?_); refine goesL_ (some 17) rfl rfl Try.func29 (by kernel_rfl) rfl #[.int .i64 (wrap64 ((Int.tmod (wrap64 ((Int.tmod a0 6) + 6)) 6) + 1))] rfl (by (try simp only [List.map_toArray, List.map_cons, List.map_nil]); first | done | rfl | (simp only [List.length_drop, List.length_take]; rfl)) ?_; (with_reducible refine (plan_Short.calls (wrap64 ((Int.tmod (wrap64 ((Int.tmod a0 6) + 6)) 6) + 1)) t119 _ A8.out).mono ?_); rintro e w11 ⟨rfl, hb⟩; refine ⟨_, rfl, ?_⟩; have n0_ := Aside0.mk (below_step (by repeat (first | (with_reducible first | exact HB.out | apply below_alloc | apply pw_below_drewN | apply below_drew1) | exact HB.out)) hb); clear HB; have HB := n0_; clear n0_; (try clear hb); (try clear hb2); (try clear hk); (try clear hi)) | ((with_reducible refine gate_callee (f := 29) rfl ?_); refine goesL_ (some 19) rfl rfl Try.func29 (by kernel_rfl) rfl #[.int .i64 (Int.tmod (wrap64 ((Int.tmod a0 6) + 6)) 6)] rfl (by (try simp only [List.map_toArray, List.map_cons, List.map_nil]); first | done | rfl | (simp only [List.length_drop, List.length_take]; rfl)) ?_; (with_reducible refine (plan_Short.calls (Int.tmod (wrap64 ((Int.tmod a0 6) + 6)) 6) t120 _ A9.out).mono ?_); rintro e w12 ⟨rfl, hb⟩; refine ⟨_, rfl, ?_⟩; have n0_ := Aside0.mk (below_step (by repeat (first | (with_reducible first | exact HB.out | apply below_alloc | apply pw_below_drewN | apply below_drew1) | exact HB.out)) hb); clear HB; have HB := n0_; clear n0_; (try clear hb); (try clear hb2); (try clear hk); (try clear hi)))
        go_meet
        case rel => exact ⟨_, (true), (by first | rfl | (simp; done) | (simp [*]; done)), H', ⟨by first | omega | exact Nat.le_refl _⟩, ⟨by repeat (first | (with_reducible first | exact HB.out | apply below_alloc | apply pw_below_drewN | apply below_drew1) | exact HB.out)⟩⟩
      · rw [if_neg c10] at H
        have c10b0 : decide (t119 < t120) = false := decide_eq_false c10
        clear c10
        (first | rw [c10b0] | (simp only [i64_w, i32_w]; rw [c10b0]) | skip)
        replace H := Option.bind_eq_some_iff.mp H
        obtain ⟨t121, A130, H⟩ := H
        replace H : ((plan_Long.f (Int.tmod (wrap64 ((Int.tmod a0 6) + 6)) 6)).bind fun t122 => (if t121 < t122 then (narrowslaw17_PlanRises.j0 k (Int.tmod (wrap64 ((Int.tmod a0 6) + 6)) 6) a1 a2 (wrap64 ((Int.tmod (wrap64 ((Int.tmod a0 6) + 6)) 6) + 1)) true) else ((plan_Delay.f (wrap64 ((Int.tmod (wrap64 ((Int.tmod a0 6) + 6)) 6) + 1))).bind fun t123 => ((plan_Delay.f (Int.tmod (wrap64 ((Int.tmod a0 6) + 6)) 6)).bind fun t124 => (narrowslaw17_PlanRises.j0 k (Int.tmod (wrap64 ((Int.tmod a0 6) + 6)) 6) a1 a2 (wrap64 ((Int.tmod (wrap64 ((Int.tmod a0 6) + 6)) 6) + 1)) (decide (t123 < t124))))))) = some r := H
        have A13 := Aside0.mk A130
        clear A130
        replace H := Option.bind_eq_some_iff.mp H
        obtain ⟨t122, A140, H⟩ := H
        replace H : (if t121 < t122 then (narrowslaw17_PlanRises.j0 k (Int.tmod (wrap64 ((Int.tmod a0 6) + 6)) 6) a1 a2 (wrap64 ((Int.tmod (wrap64 ((Int.tmod a0 6) + 6)) 6) + 1)) true) else ((plan_Delay.f (wrap64 ((Int.tmod (wrap64 ((Int.tmod a0 6) + 6)) 6) + 1))).bind fun t123 => ((plan_Delay.f (Int.tmod (wrap64 ((Int.tmod a0 6) + 6)) 6)).bind fun t124 => (narrowslaw17_PlanRises.j0 k (Int.tmod (wrap64 ((Int.tmod a0 6) + 6)) 6) a1 a2 (wrap64 ((Int.tmod (wrap64 ((Int.tmod a0 6) + 6)) 6) + 1)) (decide (t123 < t124)))))) = some r := H
        have A14 := Aside0.mk A140
        clear A140
        by_cases c15 : t121 < t122
        · rw [if_pos c15] at H
          have c15b0 : decide (t121 < t122) = true := decide_eq_true c15
          clear c15
          have H' := Aside0.mk H
          clear H
          go_wp2_with (first | ((with_reducible refine gate_callee (f := 29) rfl ?_); refine goesL_ (some 17) rfl rfl Try.func29 (by kernel_rfl) rfl #[.int .i64 (wrap64 ((Int.tmod (wrap64 ((Int.tmod a0 6) + 6)) 6) + 1))] rfl (by (try simp only [List.map_toArray, List.map_cons, List.map_nil]); first | done | rfl | (simp only [List.length_drop, List.length_take]; rfl)) ?_; (with_reducible refine (plan_Short.calls (wrap64 ((Int.tmod (wrap64 ((Int.tmod a0 6) + 6)) 6) + 1)) t119 _ A8.out).mono ?_); rintro e w16 ⟨rfl, hb⟩; refine ⟨_, rfl, ?_⟩; have n0_ := Aside0.mk (below_step (by repeat (first | (with_reducible first | exact HB.out | apply below_alloc | apply pw_below_drewN | apply below_drew1) | exact HB.out)) hb); clear HB; have HB := n0_; clear n0_; (try clear hb); (try clear hb2); (try clear hk); (try clear hi)) | ((with_reducible refine gate_callee (f := 29) rfl ?_); refine goesL_ (some 19) rfl rfl Try.func29 (by kernel_rfl) rfl #[.int .i64 (Int.tmod (wrap64 ((Int.tmod a0 6) + 6)) 6)] rfl (by (try simp only [List.map_toArray, List.map_cons, List.map_nil]); first | done | rfl | (simp only [List.length_drop, List.length_take]; rfl)) ?_; (with_reducible refine (plan_Short.calls (Int.tmod (wrap64 ((Int.tmod a0 6) + 6)) 6) t120 _ A9.out).mono ?_); rintro e w17 ⟨rfl, hb⟩; refine ⟨_, rfl, ?_⟩; have n0_ := Aside0.mk (below_step (by repeat (first | (with_reducible first | exact HB.out | apply below_alloc | apply pw_below_drewN | apply below_drew1) | exact HB.out)) hb); clear HB; have HB := n0_; clear n0_; (try clear hb); (try clear hb2); (try clear hk); (try clear hi)) | (go_at_call 27; (with_reducible refine (plan_Long.calls (wrap64 ((Int.tmod (wrap64 ((Int.tmod a0 6) + 6)) 6) + 1)) t121 _ A13.out).mono ?_); rintro e w18 ⟨rfl, hb⟩; have n0_ := Aside0.mk (below_step (by repeat (first | (with_reducible first | exact HB.out | apply below_alloc | apply pw_below_drewN | apply below_drew1) | exact HB.out)) hb); clear HB; have HB := n0_; clear n0_; (try clear hb); (try clear hb2); (try clear hk); (try clear hi)) | (go_at_call 27; (with_reducible refine (plan_Long.calls (Int.tmod (wrap64 ((Int.tmod a0 6) + 6)) 6) t122 _ A14.out).mono ?_); rintro e w19 ⟨rfl, hb⟩; have n0_ := Aside0.mk (below_step (by repeat (first | (with_reducible first | exact HB.out | apply below_alloc | apply pw_below_drewN | apply below_drew1) | exact HB.out)) hb); clear HB; have HB := n0_; clear n0_; (try clear hb); (try clear hb2); (try clear hk); (try clear hi)))
          go_meet
          case rel => exact ⟨_, (true), (by first | rfl | (simp; done) | (simp [*]; done)), H', ⟨by first | omega | exact Nat.le_refl _⟩, ⟨by repeat (first | (with_reducible first | exact HB.out | apply below_alloc | apply pw_below_drewN | apply below_drew1) | exact HB.out)⟩⟩
        · rw [if_neg c15] at H
          have c15b0 : decide (t121 < t122) = false := decide_eq_false c15
          clear c15
          replace H := Option.bind_eq_some_iff.mp H
          obtain ⟨t123, A200, H⟩ := H
          replace H : ((plan_Delay.f (Int.tmod (wrap64 ((Int.tmod a0 6) + 6)) 6)).bind fun t124 => (narrowslaw17_PlanRises.j0 k (Int.tmod (wrap64 ((Int.tmod a0 6) + 6)) 6) a1 a2 (wrap64 ((Int.tmod (wrap64 ((Int.tmod a0 6) + 6)) 6) + 1)) (decide (t123 < t124)))) = some r := H
          have A20 := Aside0.mk A200
          clear A200
          replace H := Option.bind_eq_some_iff.mp H
          obtain ⟨t124, A210, H⟩ := H
          replace H : (narrowslaw17_PlanRises.j0 k (Int.tmod (wrap64 ((Int.tmod a0 6) + 6)) 6) a1 a2 (wrap64 ((Int.tmod (wrap64 ((Int.tmod a0 6) + 6)) 6) + 1)) (decide (t123 < t124))) = some r := H
          have A21 := Aside0.mk A210
          clear A210
          have H' := Aside0.mk H
          clear H
          go_wp2_with (first | ((with_reducible refine gate_callee (f := 29) rfl ?_); refine goesL_ (some 17) rfl rfl Try.func29 (by kernel_rfl) rfl #[.int .i64 (wrap64 ((Int.tmod (wrap64 ((Int.tmod a0 6) + 6)) 6) + 1))] rfl (by (try simp only [List.map_toArray, List.map_cons, List.map_nil]); first | done | rfl | (simp only [List.length_drop, List.length_take]; rfl)) ?_; (with_reducible refine (plan_Short.calls (wrap64 ((Int.tmod (wrap64 ((Int.tmod a0 6) + 6)) 6) + 1)) t119 _ A8.out).mono ?_); rintro e w22 ⟨rfl, hb⟩; refine ⟨_, rfl, ?_⟩; have n0_ := Aside0.mk (below_step (by repeat (first | (with_reducible first | exact HB.out | apply below_alloc | apply pw_below_drewN | apply below_drew1) | exact HB.out)) hb); clear HB; have HB := n0_; clear n0_; (try clear hb); (try clear hb2); (try clear hk); (try clear hi)) | ((with_reducible refine gate_callee (f := 29) rfl ?_); refine goesL_ (some 19) rfl rfl Try.func29 (by kernel_rfl) rfl #[.int .i64 (Int.tmod (wrap64 ((Int.tmod a0 6) + 6)) 6)] rfl (by (try simp only [List.map_toArray, List.map_cons, List.map_nil]); first | done | rfl | (simp only [List.length_drop, List.length_take]; rfl)) ?_; (with_reducible refine (plan_Short.calls (Int.tmod (wrap64 ((Int.tmod a0 6) + 6)) 6) t120 _ A9.out).mono ?_); rintro e w23 ⟨rfl, hb⟩; refine ⟨_, rfl, ?_⟩; have n0_ := Aside0.mk (below_step (by repeat (first | (with_reducible first | exact HB.out | apply below_alloc | apply pw_below_drewN | apply below_drew1) | exact HB.out)) hb); clear HB; have HB := n0_; clear n0_; (try clear hb); (try clear hb2); (try clear hk); (try clear hi)) | (go_at_call 27; (with_reducible refine (plan_Long.calls (wrap64 ((Int.tmod (wrap64 ((Int.tmod a0 6) + 6)) 6) + 1)) t121 _ A13.out).mono ?_); rintro e w24 ⟨rfl, hb⟩; have n0_ := Aside0.mk (below_step (by repeat (first | (with_reducible first | exact HB.out | apply below_alloc | apply pw_below_drewN | apply below_drew1) | exact HB.out)) hb); clear HB; have HB := n0_; clear n0_; (try clear hb); (try clear hb2); (try clear hk); (try clear hi)) | (go_at_call 27; (with_reducible refine (plan_Long.calls (Int.tmod (wrap64 ((Int.tmod a0 6) + 6)) 6) t122 _ A14.out).mono ?_); rintro e w25 ⟨rfl, hb⟩; have n0_ := Aside0.mk (below_step (by repeat (first | (with_reducible first | exact HB.out | apply below_alloc | apply pw_below_drewN | apply below_drew1) | exact HB.out)) hb); clear HB; have HB := n0_; clear n0_; (try clear hb); (try clear hb2); (try clear hk); (try clear hi)) | (go_at_call 25; (with_reducible refine (plan_Delay.calls (wrap64 ((Int.tmod (wrap64 ((Int.tmod a0 6) + 6)) 6) + 1)) t123 _ A20.out).mono ?_); rintro e w26 ⟨rfl, hb⟩; have n0_ := Aside0.mk (below_step (by repeat (first | (with_reducible first | exact HB.out | apply below_alloc | apply pw_below_drewN | apply below_drew1) | exact HB.out)) hb); clear HB; have HB := n0_; clear n0_; (try clear hb); (try clear hb2); (try clear hk); (try clear hi)) | (go_at_call 25; (with_reducible refine (plan_Delay.calls (Int.tmod (wrap64 ((Int.tmod a0 6) + 6)) 6) t124 _ A21.out).mono ?_); rintro e w27 ⟨rfl, hb⟩; have n0_ := Aside0.mk (below_step (by repeat (first | (with_reducible first | exact HB.out | apply below_alloc | apply pw_below_drewN | apply below_drew1) | exact HB.out)) hb); clear HB; have HB := n0_; clear n0_; (try clear hb); (try clear hb2); (try clear hk); (try clear hi)))
          go_meet
          case rel => exact ⟨_, (decide (t123 < t124)), (by first | rfl | (simp; done) | (simp [*]; done)), H', ⟨by first | omega | exact Nat.le_refl _⟩, ⟨by repeat (first | (with_reducible first | exact HB.out | apply below_alloc | apply pw_below_drewN | apply below_drew1) | exact HB.out)⟩⟩
    case rest =>
      clear HC6
      try clear c1
      try clear c2
      try clear p2
      try clear c5
      try clear p6
      try clear c10
      try clear c10b0
      try clear c15
      try clear c15b0
      try clear c24
      obtain ⟨kq, x34_5, rfl, HA, HJ5, HB⟩ := hcut
      cases kq with
      | zero => exact absurd HA.out (by simp [narrowslaw17_PlanRises.j0])
      | succ kj5 =>
        have H := HA.out
        clear HA
        simp only [narrowslaw17_PlanRises.j0] at H
        by_cases c28 : x34_5 = true
        · subst c28
          have H1 : (some false) = some r := by rw [if_pos rfl] at H; exact H
          clear H
          have H := H1
          clear H1
          obtain rfl := Option.some.inj H
          go_wp2
          go_ret
          exact ⟨by first | rfl | (simp [errW_none, errW_some] <;> rfl) | (simp [*, errW_none, errW_some] <;> rfl), by repeat (first | (with_reducible first | exact HB.out | apply below_alloc | apply pw_below_drewN | apply below_drew1) | exact HB.out)⟩
        · replace c28 := Bool.eq_false_iff.mpr c28
          subst c28
          have H1 : ((plan_Release.f kj5 a1 a2 (wrap64 ((Int.tmod (wrap64 ((Int.tmod a0 6) + 6)) 6) + 1))).bind fun t125 => (if t125 = true then ((plan_Release.f kj5 a1 a2 (Int.tmod (wrap64 ((Int.tmod a0 6) + 6)) 6)).bind fun t126 => (if t126 = true then ((plan_Mirror.f kj5 a1 a2 (wrap64 ((Int.tmod (wrap64 ((Int.tmod a0 6) + 6)) 6) + 1))).bind fun t127 => (if t127 = true then ((plan_Mirror.f kj5 a1 a2 (Int.tmod (wrap64 ((Int.tmod a0 6) + 6)) 6)).bind fun t128 => (if t128 = true then ((plan_Due.f kj5 a1 a2 (wrap64 ((Int.tmod (wrap64 ((Int.tmod a0 6) + 6)) 6) + 1))).bind fun t129 => (if t129 = true then ((plan_Due.f kj5 a1 a2 (Int.tmod (wrap64 ((Int.tmod a0 6) + 6)) 6)).bind fun t130 => (some t130)) else (some true))) else (some false))) else ((plan_Due.f kj5 a1 a2 (wrap64 ((Int.tmod (wrap64 ((Int.tmod a0 6) + 6)) 6) + 1))).bind fun t131 => (if t131 = true then ((plan_Due.f kj5 a1 a2 (Int.tmod (wrap64 ((Int.tmod a0 6) + 6)) 6)).bind fun t132 => (some t132)) else (some true))))) else (some false))) else ((plan_Mirror.f kj5 a1 a2 (wrap64 ((Int.tmod (wrap64 ((Int.tmod a0 6) + 6)) 6) + 1))).bind fun t133 => (if t133 = true then ((plan_Mirror.f kj5 a1 a2 (Int.tmod (wrap64 ((Int.tmod a0 6) + 6)) 6)).bind fun t134 => (if t134 = true then ((plan_Due.f kj5 a1 a2 (wrap64 ((Int.tmod (wrap64 ((Int.tmod a0 6) + 6)) 6) + 1))).bind fun t135 => (if t135 = true then ((plan_Due.f kj5 a1 a2 (Int.tmod (wrap64 ((Int.tmod a0 6) + 6)) 6)).bind fun t136 => (some t136)) else (some true))) else (some false))) else ((plan_Due.f kj5 a1 a2 (wrap64 ((Int.tmod (wrap64 ((Int.tmod a0 6) + 6)) 6) + 1))).bind fun t137 => (if t137 = true then ((plan_Due.f kj5 a1 a2 (Int.tmod (wrap64 ((Int.tmod a0 6) + 6)) 6)).bind fun t138 => (some t138)) else (some true))))))) = some r := by rw [if_neg (show ¬ (false = true) by decide)] at H; exact H
          clear H
          have H := H1
          clear H1
          replace H := Option.bind_eq_some_iff.mp H
          obtain ⟨t125, A290, H⟩ := H
          replace H : (if t125 = true then ((plan_Release.f kj5 a1 a2 (Int.tmod (wrap64 ((Int.tmod a0 6) + 6)) 6)).bind fun t126 => (if t126 = true then ((plan_Mirror.f kj5 a1 a2 (wrap64 ((Int.tmod (wrap64 ((Int.tmod a0 6) + 6)) 6) + 1))).bind fun t127 => (if t127 = true then ((plan_Mirror.f kj5 a1 a2 (Int.tmod (wrap64 ((Int.tmod a0 6) + 6)) 6)).bind fun t128 => (if t128 = true then ((plan_Due.f kj5 a1 a2 (wrap64 ((Int.tmod (wrap64 ((Int.tmod a0 6) + 6)) 6) + 1))).bind fun t129 => (if t129 = true then ((plan_Due.f kj5 a1 a2 (Int.tmod (wrap64 ((Int.tmod a0 6) + 6)) 6)).bind fun t130 => (some t130)) else (some true))) else (some false))) else ((plan_Due.f kj5 a1 a2 (wrap64 ((Int.tmod (wrap64 ((Int.tmod a0 6) + 6)) 6) + 1))).bind fun t131 => (if t131 = true then ((plan_Due.f kj5 a1 a2 (Int.tmod (wrap64 ((Int.tmod a0 6) + 6)) 6)).bind fun t132 => (some t132)) else (some true))))) else (some false))) else ((plan_Mirror.f kj5 a1 a2 (wrap64 ((Int.tmod (wrap64 ((Int.tmod a0 6) + 6)) 6) + 1))).bind fun t133 => (if t133 = true then ((plan_Mirror.f kj5 a1 a2 (Int.tmod (wrap64 ((Int.tmod a0 6) + 6)) 6)).bind fun t134 => (if t134 = true then ((plan_Due.f kj5 a1 a2 (wrap64 ((Int.tmod (wrap64 ((Int.tmod a0 6) + 6)) 6) + 1))).bind fun t135 => (if t135 = true then ((plan_Due.f kj5 a1 a2 (Int.tmod (wrap64 ((Int.tmod a0 6) + 6)) 6)).bind fun t136 => (some t136)) else (some true))) else (some false))) else ((plan_Due.f kj5 a1 a2 (wrap64 ((Int.tmod (wrap64 ((Int.tmod a0 6) + 6)) 6) + 1))).bind fun t137 => (if t137 = true then ((plan_Due.f kj5 a1 a2 (Int.tmod (wrap64 ((Int.tmod a0 6) + 6)) 6)).bind fun t138 => (some t138)) else (some true)))))) = some r := H
          have A29 := Aside0.mk A290
          clear A290
          by_cases c30 : t125 = true
          · subst c30
            have H1 : ((plan_Release.f kj5 a1 a2 (Int.tmod (wrap64 ((Int.tmod a0 6) + 6)) 6)).bind fun t126 => (if t126 = true then ((plan_Mirror.f kj5 a1 a2 (wrap64 ((Int.tmod (wrap64 ((Int.tmod a0 6) + 6)) 6) + 1))).bind fun t127 => (if t127 = true then ((plan_Mirror.f kj5 a1 a2 (Int.tmod (wrap64 ((Int.tmod a0 6) + 6)) 6)).bind fun t128 => (if t128 = true then ((plan_Due.f kj5 a1 a2 (wrap64 ((Int.tmod (wrap64 ((Int.tmod a0 6) + 6)) 6) + 1))).bind fun t129 => (if t129 = true then ((plan_Due.f kj5 a1 a2 (Int.tmod (wrap64 ((Int.tmod a0 6) + 6)) 6)).bind fun t130 => (some t130)) else (some true))) else (some false))) else ((plan_Due.f kj5 a1 a2 (wrap64 ((Int.tmod (wrap64 ((Int.tmod a0 6) + 6)) 6) + 1))).bind fun t131 => (if t131 = true then ((plan_Due.f kj5 a1 a2 (Int.tmod (wrap64 ((Int.tmod a0 6) + 6)) 6)).bind fun t132 => (some t132)) else (some true))))) else (some false))) = some r := by rw [if_pos rfl] at H; exact H
            clear H
            have H := H1
            clear H1
            replace H := Option.bind_eq_some_iff.mp H
            obtain ⟨t126, A310, H⟩ := H
            replace H : (if t126 = true then ((plan_Mirror.f kj5 a1 a2 (wrap64 ((Int.tmod (wrap64 ((Int.tmod a0 6) + 6)) 6) + 1))).bind fun t127 => (if t127 = true then ((plan_Mirror.f kj5 a1 a2 (Int.tmod (wrap64 ((Int.tmod a0 6) + 6)) 6)).bind fun t128 => (if t128 = true then ((plan_Due.f kj5 a1 a2 (wrap64 ((Int.tmod (wrap64 ((Int.tmod a0 6) + 6)) 6) + 1))).bind fun t129 => (if t129 = true then ((plan_Due.f kj5 a1 a2 (Int.tmod (wrap64 ((Int.tmod a0 6) + 6)) 6)).bind fun t130 => (some t130)) else (some true))) else (some false))) else ((plan_Due.f kj5 a1 a2 (wrap64 ((Int.tmod (wrap64 ((Int.tmod a0 6) + 6)) 6) + 1))).bind fun t131 => (if t131 = true then ((plan_Due.f kj5 a1 a2 (Int.tmod (wrap64 ((Int.tmod a0 6) + 6)) 6)).bind fun t132 => (some t132)) else (some true))))) else (some false)) = some r := H
            have A31 := Aside0.mk A310
            clear A310
            by_cases c32 : t126 = true
            · subst c32
              have H1 : ((plan_Mirror.f kj5 a1 a2 (wrap64 ((Int.tmod (wrap64 ((Int.tmod a0 6) + 6)) 6) + 1))).bind fun t127 => (if t127 = true then ((plan_Mirror.f kj5 a1 a2 (Int.tmod (wrap64 ((Int.tmod a0 6) + 6)) 6)).bind fun t128 => (if t128 = true then ((plan_Due.f kj5 a1 a2 (wrap64 ((Int.tmod (wrap64 ((Int.tmod a0 6) + 6)) 6) + 1))).bind fun t129 => (if t129 = true then ((plan_Due.f kj5 a1 a2 (Int.tmod (wrap64 ((Int.tmod a0 6) + 6)) 6)).bind fun t130 => (some t130)) else (some true))) else (some false))) else ((plan_Due.f kj5 a1 a2 (wrap64 ((Int.tmod (wrap64 ((Int.tmod a0 6) + 6)) 6) + 1))).bind fun t131 => (if t131 = true then ((plan_Due.f kj5 a1 a2 (Int.tmod (wrap64 ((Int.tmod a0 6) + 6)) 6)).bind fun t132 => (some t132)) else (some true))))) = some r := by rw [if_pos rfl] at H; exact H
              clear H
              have H := H1
              clear H1
              replace H := Option.bind_eq_some_iff.mp H
              obtain ⟨t127, A330, H⟩ := H
              replace H : (if t127 = true then ((plan_Mirror.f kj5 a1 a2 (Int.tmod (wrap64 ((Int.tmod a0 6) + 6)) 6)).bind fun t128 => (if t128 = true then ((plan_Due.f kj5 a1 a2 (wrap64 ((Int.tmod (wrap64 ((Int.tmod a0 6) + 6)) 6) + 1))).bind fun t129 => (if t129 = true then ((plan_Due.f kj5 a1 a2 (Int.tmod (wrap64 ((Int.tmod a0 6) + 6)) 6)).bind fun t130 => (some t130)) else (some true))) else (some false))) else ((plan_Due.f kj5 a1 a2 (wrap64 ((Int.tmod (wrap64 ((Int.tmod a0 6) + 6)) 6) + 1))).bind fun t131 => (if t131 = true then ((plan_Due.f kj5 a1 a2 (Int.tmod (wrap64 ((Int.tmod a0 6) + 6)) 6)).bind fun t132 => (some t132)) else (some true)))) = some r := H
              have A33 := Aside0.mk A330
              clear A330
              by_cases c34 : t127 = true
              · subst c34
                have H1 : ((plan_Mirror.f kj5 a1 a2 (Int.tmod (wrap64 ((Int.tmod a0 6) + 6)) 6)).bind fun t128 => (if t128 = true then ((plan_Due.f kj5 a1 a2 (wrap64 ((Int.tmod (wrap64 ((Int.tmod a0 6) + 6)) 6) + 1))).bind fun t129 => (if t129 = true then ((plan_Due.f kj5 a1 a2 (Int.tmod (wrap64 ((Int.tmod a0 6) + 6)) 6)).bind fun t130 => (some t130)) else (some true))) else (some false))) = some r := by rw [if_pos rfl] at H; exact H
                clear H
                have H := H1
                clear H1
                replace H := Option.bind_eq_some_iff.mp H
                obtain ⟨t128, A350, H⟩ := H
                replace H : (if t128 = true then ((plan_Due.f kj5 a1 a2 (wrap64 ((Int.tmod (wrap64 ((Int.tmod a0 6) + 6)) 6) + 1))).bind fun t129 => (if t129 = true then ((plan_Due.f kj5 a1 a2 (Int.tmod (wrap64 ((Int.tmod a0 6) + 6)) 6)).bind fun t130 => (some t130)) else (some true))) else (some false)) = some r := H
                have A35 := Aside0.mk A350
                clear A350
                by_cases c36 : t128 = true
                · subst c36
                  have H1 : ((plan_Due.f kj5 a1 a2 (wrap64 ((Int.tmod (wrap64 ((Int.tmod a0 6) + 6)) 6) + 1))).bind fun t129 => (if t129 = true then ((plan_Due.f kj5 a1 a2 (Int.tmod (wrap64 ((Int.tmod a0 6) + 6)) 6)).bind fun t130 => (some t130)) else (some true))) = some r := by rw [if_pos rfl] at H; exact H
                  clear H
                  have H := H1
                  clear H1
                  replace H := Option.bind_eq_some_iff.mp H
                  obtain ⟨t129, A370, H⟩ := H
                  replace H : (if t129 = true then ((plan_Due.f kj5 a1 a2 (Int.tmod (wrap64 ((Int.tmod a0 6) + 6)) 6)).bind fun t130 => (some t130)) else (some true)) = some r := H
                  have A37 := Aside0.mk A370
                  clear A370
                  by_cases c38 : t129 = true
                  · subst c38
                    have H1 : ((plan_Due.f kj5 a1 a2 (Int.tmod (wrap64 ((Int.tmod a0 6) + 6)) 6)).bind fun t130 => (some t130)) = some r := by rw [if_pos rfl] at H; exact H
                    clear H
                    have H := H1
                    clear H1
                    replace H := Option.bind_eq_some_iff.mp H
                    obtain ⟨t130, A390, H⟩ := H
                    replace H : (some t130) = some r := H
                    have A39 := Aside0.mk A390
                    clear A390
                    obtain rfl := Option.some.inj H
                    go_wp2_with (first | ((with_reducible refine gate_callee (f := 28) rfl ?_); refine goesL_ (some 38) rfl rfl Try.func28 (by kernel_rfl) rfl #[.int .i64 a1, .int .i64 a2, .int .i64 (wrap64 ((Int.tmod (wrap64 ((Int.tmod a0 6) + 6)) 6) + 1))] rfl (by (try simp only [List.map_toArray, List.map_cons, List.map_nil]); first | done | rfl | (simp only [List.length_drop, List.length_take]; rfl)) ?_; (with_reducible refine (plan_Release.calls kj5 a1 a2 (wrap64 ((Int.tmod (wrap64 ((Int.tmod a0 6) + 6)) 6) + 1)) true _ A29.out).mono ?_); rintro e w40 ⟨rfl, hb⟩; refine ⟨_, rfl, ?_⟩; have n0_ := Aside0.mk (below_step (by repeat (first | (with_reducible first | exact HB.out | apply below_alloc | apply pw_below_drewN | apply below_drew1) | exact HB.out)) hb); clear HB; have HB := n0_; clear n0_; (try clear hb); (try clear hb2); (try clear hk); (try clear hi)) | (go_at_call 28; (with_reducible refine (plan_Release.calls kj5 a1 a2 (Int.tmod (wrap64 ((Int.tmod a0 6) + 6)) 6) true _ A31.out).mono ?_); rintro e w41 ⟨rfl, hb⟩; have n0_ := Aside0.mk (below_step (by repeat (first | (with_reducible first | exact HB.out | apply below_alloc | apply pw_below_drewN | apply below_drew1) | exact HB.out)) hb); clear HB; have HB := n0_; clear n0_; (try clear hb); (try clear hb2); (try clear hk); (try clear hi)) | (go_at_call 26; (with_reducible refine (plan_Mirror.calls kj5 a1 a2 (wrap64 ((Int.tmod (wrap64 ((Int.tmod a0 6) + 6)) 6) + 1)) true _ A33.out).mono ?_); rintro e w42 ⟨rfl, hb⟩; have n0_ := Aside0.mk (below_step (by repeat (first | (with_reducible first | exact HB.out | apply below_alloc | apply pw_below_drewN | apply below_drew1) | exact HB.out)) hb); clear HB; have HB := n0_; clear n0_; (try clear hb); (try clear hb2); (try clear hk); (try clear hi)) | (go_at_call 26; (with_reducible refine (plan_Mirror.calls kj5 a1 a2 (Int.tmod (wrap64 ((Int.tmod a0 6) + 6)) 6) true _ A35.out).mono ?_); rintro e w43 ⟨rfl, hb⟩; have n0_ := Aside0.mk (below_step (by repeat (first | (with_reducible first | exact HB.out | apply below_alloc | apply pw_below_drewN | apply below_drew1) | exact HB.out)) hb); clear HB; have HB := n0_; clear n0_; (try clear hb); (try clear hb2); (try clear hk); (try clear hi)) | (go_at_call 31; (with_reducible refine (plan_Due.calls kj5 a1 a2 (wrap64 ((Int.tmod (wrap64 ((Int.tmod a0 6) + 6)) 6) + 1)) true _ A37.out).mono ?_); rintro e w44 ⟨rfl, hb⟩; have n0_ := Aside0.mk (below_step (by repeat (first | (with_reducible first | exact HB.out | apply below_alloc | apply pw_below_drewN | apply below_drew1) | exact HB.out)) hb); clear HB; have HB := n0_; clear n0_; (try clear hb); (try clear hb2); (try clear hk); (try clear hi)) | (go_at_call 31; (with_reducible refine (plan_Due.calls kj5 a1 a2 (Int.tmod (wrap64 ((Int.tmod a0 6) + 6)) 6) t130 _ A39.out).mono ?_); rintro e w45 ⟨rfl, hb⟩; have n0_ := Aside0.mk (below_step (by repeat (first | (with_reducible first | exact HB.out | apply below_alloc | apply pw_below_drewN | apply below_drew1) | exact HB.out)) hb); clear HB; have HB := n0_; clear n0_; (try clear hb); (try clear hb2); (try clear hk); (try clear hi)))
                    go_ret
                    exact ⟨by first | rfl | (simp [errW_none, errW_some] <;> rfl) | (simp [*, errW_none, errW_some] <;> rfl), by repeat (first | (with_reducible first | exact HB.out | apply below_alloc | apply pw_below_drewN | apply below_drew1) | exact HB.out)⟩
                  · replace c38 := Bool.eq_false_iff.mpr c38
                    subst c38
                    have H1 : (some true) = some r := by rw [if_neg (show ¬ (false = true) by decide)] at H; exact H
                    clear H
                    have H := H1
                    clear H1
                    obtain rfl := Option.some.inj H
                    go_wp2_with (first | ((with_reducible refine gate_callee (f := 28) rfl ?_); refine goesL_ (some 38) rfl rfl Try.func28 (by kernel_rfl) rfl #[.int .i64 a1, .int .i64 a2, .int .i64 (wrap64 ((Int.tmod (wrap64 ((Int.tmod a0 6) + 6)) 6) + 1))] rfl (by (try simp only [List.map_toArray, List.map_cons, List.map_nil]); first | done | rfl | (simp only [List.length_drop, List.length_take]; rfl)) ?_; (with_reducible refine (plan_Release.calls kj5 a1 a2 (wrap64 ((Int.tmod (wrap64 ((Int.tmod a0 6) + 6)) 6) + 1)) true _ A29.out).mono ?_); rintro e w46 ⟨rfl, hb⟩; refine ⟨_, rfl, ?_⟩; have n0_ := Aside0.mk (below_step (by repeat (first | (with_reducible first | exact HB.out | apply below_alloc | apply pw_below_drewN | apply below_drew1) | exact HB.out)) hb); clear HB; have HB := n0_; clear n0_; (try clear hb); (try clear hb2); (try clear hk); (try clear hi)) | (go_at_call 28; (with_reducible refine (plan_Release.calls kj5 a1 a2 (Int.tmod (wrap64 ((Int.tmod a0 6) + 6)) 6) true _ A31.out).mono ?_); rintro e w47 ⟨rfl, hb⟩; have n0_ := Aside0.mk (below_step (by repeat (first | (with_reducible first | exact HB.out | apply below_alloc | apply pw_below_drewN | apply below_drew1) | exact HB.out)) hb); clear HB; have HB := n0_; clear n0_; (try clear hb); (try clear hb2); (try clear hk); (try clear hi)) | (go_at_call 26; (with_reducible refine (plan_Mirror.calls kj5 a1 a2 (wrap64 ((Int.tmod (wrap64 ((Int.tmod a0 6) + 6)) 6) + 1)) true _ A33.out).mono ?_); rintro e w48 ⟨rfl, hb⟩; have n0_ := Aside0.mk (below_step (by repeat (first | (with_reducible first | exact HB.out | apply below_alloc | apply pw_below_drewN | apply below_drew1) | exact HB.out)) hb); clear HB; have HB := n0_; clear n0_; (try clear hb); (try clear hb2); (try clear hk); (try clear hi)) | (go_at_call 26; (with_reducible refine (plan_Mirror.calls kj5 a1 a2 (Int.tmod (wrap64 ((Int.tmod a0 6) + 6)) 6) true _ A35.out).mono ?_); rintro e w49 ⟨rfl, hb⟩; have n0_ := Aside0.mk (below_step (by repeat (first | (with_reducible first | exact HB.out | apply below_alloc | apply pw_below_drewN | apply below_drew1) | exact HB.out)) hb); clear HB; have HB := n0_; clear n0_; (try clear hb); (try clear hb2); (try clear hk); (try clear hi)) | (go_at_call 31; (with_reducible refine (plan_Due.calls kj5 a1 a2 (wrap64 ((Int.tmod (wrap64 ((Int.tmod a0 6) + 6)) 6) + 1)) false _ A37.out).mono ?_); rintro e w50 ⟨rfl, hb⟩; have n0_ := Aside0.mk (below_step (by repeat (first | (with_reducible first | exact HB.out | apply below_alloc | apply pw_below_drewN | apply below_drew1) | exact HB.out)) hb); clear HB; have HB := n0_; clear n0_; (try clear hb); (try clear hb2); (try clear hk); (try clear hi)))
                    go_ret
                    exact ⟨by first | rfl | (simp [errW_none, errW_some] <;> rfl) | (simp [*, errW_none, errW_some] <;> rfl), by repeat (first | (with_reducible first | exact HB.out | apply below_alloc | apply pw_below_drewN | apply below_drew1) | exact HB.out)⟩
                · replace c36 := Bool.eq_false_iff.mpr c36
                  subst c36
                  have H1 : (some false) = some r := by rw [if_neg (show ¬ (false = true) by decide)] at H; exact H
                  clear H
                  have H := H1
                  clear H1
                  obtain rfl := Option.some.inj H
                  go_wp2_with (first | ((with_reducible refine gate_callee (f := 28) rfl ?_); refine goesL_ (some 38) rfl rfl Try.func28 (by kernel_rfl) rfl #[.int .i64 a1, .int .i64 a2, .int .i64 (wrap64 ((Int.tmod (wrap64 ((Int.tmod a0 6) + 6)) 6) + 1))] rfl (by (try simp only [List.map_toArray, List.map_cons, List.map_nil]); first | done | rfl | (simp only [List.length_drop, List.length_take]; rfl)) ?_; (with_reducible refine (plan_Release.calls kj5 a1 a2 (wrap64 ((Int.tmod (wrap64 ((Int.tmod a0 6) + 6)) 6) + 1)) true _ A29.out).mono ?_); rintro e w51 ⟨rfl, hb⟩; refine ⟨_, rfl, ?_⟩; have n0_ := Aside0.mk (below_step (by repeat (first | (with_reducible first | exact HB.out | apply below_alloc | apply pw_below_drewN | apply below_drew1) | exact HB.out)) hb); clear HB; have HB := n0_; clear n0_; (try clear hb); (try clear hb2); (try clear hk); (try clear hi)) | (go_at_call 28; (with_reducible refine (plan_Release.calls kj5 a1 a2 (Int.tmod (wrap64 ((Int.tmod a0 6) + 6)) 6) true _ A31.out).mono ?_); rintro e w52 ⟨rfl, hb⟩; have n0_ := Aside0.mk (below_step (by repeat (first | (with_reducible first | exact HB.out | apply below_alloc | apply pw_below_drewN | apply below_drew1) | exact HB.out)) hb); clear HB; have HB := n0_; clear n0_; (try clear hb); (try clear hb2); (try clear hk); (try clear hi)) | (go_at_call 26; (with_reducible refine (plan_Mirror.calls kj5 a1 a2 (wrap64 ((Int.tmod (wrap64 ((Int.tmod a0 6) + 6)) 6) + 1)) true _ A33.out).mono ?_); rintro e w53 ⟨rfl, hb⟩; have n0_ := Aside0.mk (below_step (by repeat (first | (with_reducible first | exact HB.out | apply below_alloc | apply pw_below_drewN | apply below_drew1) | exact HB.out)) hb); clear HB; have HB := n0_; clear n0_; (try clear hb); (try clear hb2); (try clear hk); (try clear hi)) | (go_at_call 26; (with_reducible refine (plan_Mirror.calls kj5 a1 a2 (Int.tmod (wrap64 ((Int.tmod a0 6) + 6)) 6) false _ A35.out).mono ?_); rintro e w54 ⟨rfl, hb⟩; have n0_ := Aside0.mk (below_step (by repeat (first | (with_reducible first | exact HB.out | apply below_alloc | apply pw_below_drewN | apply below_drew1) | exact HB.out)) hb); clear HB; have HB := n0_; clear n0_; (try clear hb); (try clear hb2); (try clear hk); (try clear hi)))
                  go_ret
                  exact ⟨by first | rfl | (simp [errW_none, errW_some] <;> rfl) | (simp [*, errW_none, errW_some] <;> rfl), by repeat (first | (with_reducible first | exact HB.out | apply below_alloc | apply pw_below_drewN | apply below_drew1) | exact HB.out)⟩
              · replace c34 := Bool.eq_false_iff.mpr c34
                subst c34
                have H1 : ((plan_Due.f kj5 a1 a2 (wrap64 ((Int.tmod (wrap64 ((Int.tmod a0 6) + 6)) 6) + 1))).bind fun t131 => (if t131 = true then ((plan_Due.f kj5 a1 a2 (Int.tmod (wrap64 ((Int.tmod a0 6) + 6)) 6)).bind fun t132 => (some t132)) else (some true))) = some r := by rw [if_neg (show ¬ (false = true) by decide)] at H; exact H
                clear H
                have H := H1
                clear H1
                replace H := Option.bind_eq_some_iff.mp H
                obtain ⟨t131, A550, H⟩ := H
                replace H : (if t131 = true then ((plan_Due.f kj5 a1 a2 (Int.tmod (wrap64 ((Int.tmod a0 6) + 6)) 6)).bind fun t132 => (some t132)) else (some true)) = some r := H
                have A55 := Aside0.mk A550
                clear A550
                by_cases c56 : t131 = true
                · subst c56
                  have H1 : ((plan_Due.f kj5 a1 a2 (Int.tmod (wrap64 ((Int.tmod a0 6) + 6)) 6)).bind fun t132 => (some t132)) = some r := by rw [if_pos rfl] at H; exact H
                  clear H
                  have H := H1
                  clear H1
                  replace H := Option.bind_eq_some_iff.mp H
                  obtain ⟨t132, A570, H⟩ := H
                  replace H : (some t132) = some r := H
                  have A57 := Aside0.mk A570
                  clear A570
                  obtain rfl := Option.some.inj H
                  go_wp2_with (first | ((with_reducible refine gate_callee (f := 28) rfl ?_); refine goesL_ (some 38) rfl rfl Try.func28 (by kernel_rfl) rfl #[.int .i64 a1, .int .i64 a2, .int .i64 (wrap64 ((Int.tmod (wrap64 ((Int.tmod a0 6) + 6)) 6) + 1))] rfl (by (try simp only [List.map_toArray, List.map_cons, List.map_nil]); first | done | rfl | (simp only [List.length_drop, List.length_take]; rfl)) ?_; (with_reducible refine (plan_Release.calls kj5 a1 a2 (wrap64 ((Int.tmod (wrap64 ((Int.tmod a0 6) + 6)) 6) + 1)) true _ A29.out).mono ?_); rintro e w58 ⟨rfl, hb⟩; refine ⟨_, rfl, ?_⟩; have n0_ := Aside0.mk (below_step (by repeat (first | (with_reducible first | exact HB.out | apply below_alloc | apply pw_below_drewN | apply below_drew1) | exact HB.out)) hb); clear HB; have HB := n0_; clear n0_; (try clear hb); (try clear hb2); (try clear hk); (try clear hi)) | (go_at_call 28; (with_reducible refine (plan_Release.calls kj5 a1 a2 (Int.tmod (wrap64 ((Int.tmod a0 6) + 6)) 6) true _ A31.out).mono ?_); rintro e w59 ⟨rfl, hb⟩; have n0_ := Aside0.mk (below_step (by repeat (first | (with_reducible first | exact HB.out | apply below_alloc | apply pw_below_drewN | apply below_drew1) | exact HB.out)) hb); clear HB; have HB := n0_; clear n0_; (try clear hb); (try clear hb2); (try clear hk); (try clear hi)) | (go_at_call 26; (with_reducible refine (plan_Mirror.calls kj5 a1 a2 (wrap64 ((Int.tmod (wrap64 ((Int.tmod a0 6) + 6)) 6) + 1)) false _ A33.out).mono ?_); rintro e w60 ⟨rfl, hb⟩; have n0_ := Aside0.mk (below_step (by repeat (first | (with_reducible first | exact HB.out | apply below_alloc | apply pw_below_drewN | apply below_drew1) | exact HB.out)) hb); clear HB; have HB := n0_; clear n0_; (try clear hb); (try clear hb2); (try clear hk); (try clear hi)) | (go_at_call 31; (with_reducible refine (plan_Due.calls kj5 a1 a2 (wrap64 ((Int.tmod (wrap64 ((Int.tmod a0 6) + 6)) 6) + 1)) true _ A55.out).mono ?_); rintro e w61 ⟨rfl, hb⟩; have n0_ := Aside0.mk (below_step (by repeat (first | (with_reducible first | exact HB.out | apply below_alloc | apply pw_below_drewN | apply below_drew1) | exact HB.out)) hb); clear HB; have HB := n0_; clear n0_; (try clear hb); (try clear hb2); (try clear hk); (try clear hi)) | (go_at_call 31; (with_reducible refine (plan_Due.calls kj5 a1 a2 (Int.tmod (wrap64 ((Int.tmod a0 6) + 6)) 6) t132 _ A57.out).mono ?_); rintro e w62 ⟨rfl, hb⟩; have n0_ := Aside0.mk (below_step (by repeat (first | (with_reducible first | exact HB.out | apply below_alloc | apply pw_below_drewN | apply below_drew1) | exact HB.out)) hb); clear HB; have HB := n0_; clear n0_; (try clear hb); (try clear hb2); (try clear hk); (try clear hi)))
                  go_ret
                  exact ⟨by first | rfl | (simp [errW_none, errW_some] <;> rfl) | (simp [*, errW_none, errW_some] <;> rfl), by repeat (first | (with_reducible first | exact HB.out | apply below_alloc | apply pw_below_drewN | apply below_drew1) | exact HB.out)⟩
                · replace c56 := Bool.eq_false_iff.mpr c56
                  subst c56
                  have H1 : (some true) = some r := by rw [if_neg (show ¬ (false = true) by decide)] at H; exact H
                  clear H
                  have H := H1
                  clear H1
                  obtain rfl := Option.some.inj H
                  go_wp2_with (first | ((with_reducible refine gate_callee (f := 28) rfl ?_); refine goesL_ (some 38) rfl rfl Try.func28 (by kernel_rfl) rfl #[.int .i64 a1, .int .i64 a2, .int .i64 (wrap64 ((Int.tmod (wrap64 ((Int.tmod a0 6) + 6)) 6) + 1))] rfl (by (try simp only [List.map_toArray, List.map_cons, List.map_nil]); first | done | rfl | (simp only [List.length_drop, List.length_take]; rfl)) ?_; (with_reducible refine (plan_Release.calls kj5 a1 a2 (wrap64 ((Int.tmod (wrap64 ((Int.tmod a0 6) + 6)) 6) + 1)) true _ A29.out).mono ?_); rintro e w63 ⟨rfl, hb⟩; refine ⟨_, rfl, ?_⟩; have n0_ := Aside0.mk (below_step (by repeat (first | (with_reducible first | exact HB.out | apply below_alloc | apply pw_below_drewN | apply below_drew1) | exact HB.out)) hb); clear HB; have HB := n0_; clear n0_; (try clear hb); (try clear hb2); (try clear hk); (try clear hi)) | (go_at_call 28; (with_reducible refine (plan_Release.calls kj5 a1 a2 (Int.tmod (wrap64 ((Int.tmod a0 6) + 6)) 6) true _ A31.out).mono ?_); rintro e w64 ⟨rfl, hb⟩; have n0_ := Aside0.mk (below_step (by repeat (first | (with_reducible first | exact HB.out | apply below_alloc | apply pw_below_drewN | apply below_drew1) | exact HB.out)) hb); clear HB; have HB := n0_; clear n0_; (try clear hb); (try clear hb2); (try clear hk); (try clear hi)) | (go_at_call 26; (with_reducible refine (plan_Mirror.calls kj5 a1 a2 (wrap64 ((Int.tmod (wrap64 ((Int.tmod a0 6) + 6)) 6) + 1)) false _ A33.out).mono ?_); rintro e w65 ⟨rfl, hb⟩; have n0_ := Aside0.mk (below_step (by repeat (first | (with_reducible first | exact HB.out | apply below_alloc | apply pw_below_drewN | apply below_drew1) | exact HB.out)) hb); clear HB; have HB := n0_; clear n0_; (try clear hb); (try clear hb2); (try clear hk); (try clear hi)) | (go_at_call 31; (with_reducible refine (plan_Due.calls kj5 a1 a2 (wrap64 ((Int.tmod (wrap64 ((Int.tmod a0 6) + 6)) 6) + 1)) false _ A55.out).mono ?_); rintro e w66 ⟨rfl, hb⟩; have n0_ := Aside0.mk (below_step (by repeat (first | (with_reducible first | exact HB.out | apply below_alloc | apply pw_below_drewN | apply below_drew1) | exact HB.out)) hb); clear HB; have HB := n0_; clear n0_; (try clear hb); (try clear hb2); (try clear hk); (try clear hi)))
                  go_ret
                  exact ⟨by first | rfl | (simp [errW_none, errW_some] <;> rfl) | (simp [*, errW_none, errW_some] <;> rfl), by repeat (first | (with_reducible first | exact HB.out | apply below_alloc | apply pw_below_drewN | apply below_drew1) | exact HB.out)⟩
            · replace c32 := Bool.eq_false_iff.mpr c32
              subst c32
              have H1 : (some false) = some r := by rw [if_neg (show ¬ (false = true) by decide)] at H; exact H
              clear H
              have H := H1
              clear H1
              obtain rfl := Option.some.inj H
              go_wp2_with (first | ((with_reducible refine gate_callee (f := 28) rfl ?_); refine goesL_ (some 38) rfl rfl Try.func28 (by kernel_rfl) rfl #[.int .i64 a1, .int .i64 a2, .int .i64 (wrap64 ((Int.tmod (wrap64 ((Int.tmod a0 6) + 6)) 6) + 1))] rfl (by (try simp only [List.map_toArray, List.map_cons, List.map_nil]); first | done | rfl | (simp only [List.length_drop, List.length_take]; rfl)) ?_; (with_reducible refine (plan_Release.calls kj5 a1 a2 (wrap64 ((Int.tmod (wrap64 ((Int.tmod a0 6) + 6)) 6) + 1)) true _ A29.out).mono ?_); rintro e w67 ⟨rfl, hb⟩; refine ⟨_, rfl, ?_⟩; have n0_ := Aside0.mk (below_step (by repeat (first | (with_reducible first | exact HB.out | apply below_alloc | apply pw_below_drewN | apply below_drew1) | exact HB.out)) hb); clear HB; have HB := n0_; clear n0_; (try clear hb); (try clear hb2); (try clear hk); (try clear hi)) | (go_at_call 28; (with_reducible refine (plan_Release.calls kj5 a1 a2 (Int.tmod (wrap64 ((Int.tmod a0 6) + 6)) 6) false _ A31.out).mono ?_); rintro e w68 ⟨rfl, hb⟩; have n0_ := Aside0.mk (below_step (by repeat (first | (with_reducible first | exact HB.out | apply below_alloc | apply pw_below_drewN | apply below_drew1) | exact HB.out)) hb); clear HB; have HB := n0_; clear n0_; (try clear hb); (try clear hb2); (try clear hk); (try clear hi)))
              go_ret
              exact ⟨by first | rfl | (simp [errW_none, errW_some] <;> rfl) | (simp [*, errW_none, errW_some] <;> rfl), by repeat (first | (with_reducible first | exact HB.out | apply below_alloc | apply pw_below_drewN | apply below_drew1) | exact HB.out)⟩
          · replace c30 := Bool.eq_false_iff.mpr c30
            subst c30
            have H1 : ((plan_Mirror.f kj5 a1 a2 (wrap64 ((Int.tmod (wrap64 ((Int.tmod a0 6) + 6)) 6) + 1))).bind fun t133 => (if t133 = true then ((plan_Mirror.f kj5 a1 a2 (Int.tmod (wrap64 ((Int.tmod a0 6) + 6)) 6)).bind fun t134 => (if t134 = true then ((plan_Due.f kj5 a1 a2 (wrap64 ((Int.tmod (wrap64 ((Int.tmod a0 6) + 6)) 6) + 1))).bind fun t135 => (if t135 = true then ((plan_Due.f kj5 a1 a2 (Int.tmod (wrap64 ((Int.tmod a0 6) + 6)) 6)).bind fun t136 => (some t136)) else (some true))) else (some false))) else ((plan_Due.f kj5 a1 a2 (wrap64 ((Int.tmod (wrap64 ((Int.tmod a0 6) + 6)) 6) + 1))).bind fun t137 => (if t137 = true then ((plan_Due.f kj5 a1 a2 (Int.tmod (wrap64 ((Int.tmod a0 6) + 6)) 6)).bind fun t138 => (some t138)) else (some true))))) = some r := by rw [if_neg (show ¬ (false = true) by decide)] at H; exact H
            clear H
            have H := H1
            clear H1
            replace H := Option.bind_eq_some_iff.mp H
            obtain ⟨t133, A690, H⟩ := H
            replace H : (if t133 = true then ((plan_Mirror.f kj5 a1 a2 (Int.tmod (wrap64 ((Int.tmod a0 6) + 6)) 6)).bind fun t134 => (if t134 = true then ((plan_Due.f kj5 a1 a2 (wrap64 ((Int.tmod (wrap64 ((Int.tmod a0 6) + 6)) 6) + 1))).bind fun t135 => (if t135 = true then ((plan_Due.f kj5 a1 a2 (Int.tmod (wrap64 ((Int.tmod a0 6) + 6)) 6)).bind fun t136 => (some t136)) else (some true))) else (some false))) else ((plan_Due.f kj5 a1 a2 (wrap64 ((Int.tmod (wrap64 ((Int.tmod a0 6) + 6)) 6) + 1))).bind fun t137 => (if t137 = true then ((plan_Due.f kj5 a1 a2 (Int.tmod (wrap64 ((Int.tmod a0 6) + 6)) 6)).bind fun t138 => (some t138)) else (some true)))) = some r := H
            have A69 := Aside0.mk A690
            clear A690
            by_cases c70 : t133 = true
            · subst c70
              have H1 : ((plan_Mirror.f kj5 a1 a2 (Int.tmod (wrap64 ((Int.tmod a0 6) + 6)) 6)).bind fun t134 => (if t134 = true then ((plan_Due.f kj5 a1 a2 (wrap64 ((Int.tmod (wrap64 ((Int.tmod a0 6) + 6)) 6) + 1))).bind fun t135 => (if t135 = true then ((plan_Due.f kj5 a1 a2 (Int.tmod (wrap64 ((Int.tmod a0 6) + 6)) 6)).bind fun t136 => (some t136)) else (some true))) else (some false))) = some r := by rw [if_pos rfl] at H; exact H
              clear H
              have H := H1
              clear H1
              replace H := Option.bind_eq_some_iff.mp H
              obtain ⟨t134, A710, H⟩ := H
              replace H : (if t134 = true then ((plan_Due.f kj5 a1 a2 (wrap64 ((Int.tmod (wrap64 ((Int.tmod a0 6) + 6)) 6) + 1))).bind fun t135 => (if t135 = true then ((plan_Due.f kj5 a1 a2 (Int.tmod (wrap64 ((Int.tmod a0 6) + 6)) 6)).bind fun t136 => (some t136)) else (some true))) else (some false)) = some r := H
              have A71 := Aside0.mk A710
              clear A710
              by_cases c72 : t134 = true
              · subst c72
                have H1 : ((plan_Due.f kj5 a1 a2 (wrap64 ((Int.tmod (wrap64 ((Int.tmod a0 6) + 6)) 6) + 1))).bind fun t135 => (if t135 = true then ((plan_Due.f kj5 a1 a2 (Int.tmod (wrap64 ((Int.tmod a0 6) + 6)) 6)).bind fun t136 => (some t136)) else (some true))) = some r := by rw [if_pos rfl] at H; exact H
                clear H
                have H := H1
                clear H1
                replace H := Option.bind_eq_some_iff.mp H
                obtain ⟨t135, A730, H⟩ := H
                replace H : (if t135 = true then ((plan_Due.f kj5 a1 a2 (Int.tmod (wrap64 ((Int.tmod a0 6) + 6)) 6)).bind fun t136 => (some t136)) else (some true)) = some r := H
                have A73 := Aside0.mk A730
                clear A730
                by_cases c74 : t135 = true
                · subst c74
                  have H1 : ((plan_Due.f kj5 a1 a2 (Int.tmod (wrap64 ((Int.tmod a0 6) + 6)) 6)).bind fun t136 => (some t136)) = some r := by rw [if_pos rfl] at H; exact H
                  clear H
                  have H := H1
                  clear H1
                  replace H := Option.bind_eq_some_iff.mp H
                  obtain ⟨t136, A750, H⟩ := H
                  replace H : (some t136) = some r := H
                  have A75 := Aside0.mk A750
                  clear A750
                  obtain rfl := Option.some.inj H
                  go_wp2_with (first | ((with_reducible refine gate_callee (f := 28) rfl ?_); refine goesL_ (some 38) rfl rfl Try.func28 (by kernel_rfl) rfl #[.int .i64 a1, .int .i64 a2, .int .i64 (wrap64 ((Int.tmod (wrap64 ((Int.tmod a0 6) + 6)) 6) + 1))] rfl (by (try simp only [List.map_toArray, List.map_cons, List.map_nil]); first | done | rfl | (simp only [List.length_drop, List.length_take]; rfl)) ?_; (with_reducible refine (plan_Release.calls kj5 a1 a2 (wrap64 ((Int.tmod (wrap64 ((Int.tmod a0 6) + 6)) 6) + 1)) false _ A29.out).mono ?_); rintro e w76 ⟨rfl, hb⟩; refine ⟨_, rfl, ?_⟩; have n0_ := Aside0.mk (below_step (by repeat (first | (with_reducible first | exact HB.out | apply below_alloc | apply pw_below_drewN | apply below_drew1) | exact HB.out)) hb); clear HB; have HB := n0_; clear n0_; (try clear hb); (try clear hb2); (try clear hk); (try clear hi)) | (go_at_call 26; (with_reducible refine (plan_Mirror.calls kj5 a1 a2 (wrap64 ((Int.tmod (wrap64 ((Int.tmod a0 6) + 6)) 6) + 1)) true _ A69.out).mono ?_); rintro e w77 ⟨rfl, hb⟩; have n0_ := Aside0.mk (below_step (by repeat (first | (with_reducible first | exact HB.out | apply below_alloc | apply pw_below_drewN | apply below_drew1) | exact HB.out)) hb); clear HB; have HB := n0_; clear n0_; (try clear hb); (try clear hb2); (try clear hk); (try clear hi)) | (go_at_call 26; (with_reducible refine (plan_Mirror.calls kj5 a1 a2 (Int.tmod (wrap64 ((Int.tmod a0 6) + 6)) 6) true _ A71.out).mono ?_); rintro e w78 ⟨rfl, hb⟩; have n0_ := Aside0.mk (below_step (by repeat (first | (with_reducible first | exact HB.out | apply below_alloc | apply pw_below_drewN | apply below_drew1) | exact HB.out)) hb); clear HB; have HB := n0_; clear n0_; (try clear hb); (try clear hb2); (try clear hk); (try clear hi)) | (go_at_call 31; (with_reducible refine (plan_Due.calls kj5 a1 a2 (wrap64 ((Int.tmod (wrap64 ((Int.tmod a0 6) + 6)) 6) + 1)) true _ A73.out).mono ?_); rintro e w79 ⟨rfl, hb⟩; have n0_ := Aside0.mk (below_step (by repeat (first | (with_reducible first | exact HB.out | apply below_alloc | apply pw_below_drewN | apply below_drew1) | exact HB.out)) hb); clear HB; have HB := n0_; clear n0_; (try clear hb); (try clear hb2); (try clear hk); (try clear hi)) | (go_at_call 31; (with_reducible refine (plan_Due.calls kj5 a1 a2 (Int.tmod (wrap64 ((Int.tmod a0 6) + 6)) 6) t136 _ A75.out).mono ?_); rintro e w80 ⟨rfl, hb⟩; have n0_ := Aside0.mk (below_step (by repeat (first | (with_reducible first | exact HB.out | apply below_alloc | apply pw_below_drewN | apply below_drew1) | exact HB.out)) hb); clear HB; have HB := n0_; clear n0_; (try clear hb); (try clear hb2); (try clear hk); (try clear hi)))
                  go_ret
                  exact ⟨by first | rfl | (simp [errW_none, errW_some] <;> rfl) | (simp [*, errW_none, errW_some] <;> rfl), by repeat (first | (with_reducible first | exact HB.out | apply below_alloc | apply pw_below_drewN | apply below_drew1) | exact HB.out)⟩
                · replace c74 := Bool.eq_false_iff.mpr c74
                  subst c74
                  have H1 : (some true) = some r := by rw [if_neg (show ¬ (false = true) by decide)] at H; exact H
                  clear H
                  have H := H1
                  clear H1
                  obtain rfl := Option.some.inj H
                  go_wp2_with (first | ((with_reducible refine gate_callee (f := 28) rfl ?_); refine goesL_ (some 38) rfl rfl Try.func28 (by kernel_rfl) rfl #[.int .i64 a1, .int .i64 a2, .int .i64 (wrap64 ((Int.tmod (wrap64 ((Int.tmod a0 6) + 6)) 6) + 1))] rfl (by (try simp only [List.map_toArray, List.map_cons, List.map_nil]); first | done | rfl | (simp only [List.length_drop, List.length_take]; rfl)) ?_; (with_reducible refine (plan_Release.calls kj5 a1 a2 (wrap64 ((Int.tmod (wrap64 ((Int.tmod a0 6) + 6)) 6) + 1)) false _ A29.out).mono ?_); rintro e w81 ⟨rfl, hb⟩; refine ⟨_, rfl, ?_⟩; have n0_ := Aside0.mk (below_step (by repeat (first | (with_reducible first | exact HB.out | apply below_alloc | apply pw_below_drewN | apply below_drew1) | exact HB.out)) hb); clear HB; have HB := n0_; clear n0_; (try clear hb); (try clear hb2); (try clear hk); (try clear hi)) | (go_at_call 26; (with_reducible refine (plan_Mirror.calls kj5 a1 a2 (wrap64 ((Int.tmod (wrap64 ((Int.tmod a0 6) + 6)) 6) + 1)) true _ A69.out).mono ?_); rintro e w82 ⟨rfl, hb⟩; have n0_ := Aside0.mk (below_step (by repeat (first | (with_reducible first | exact HB.out | apply below_alloc | apply pw_below_drewN | apply below_drew1) | exact HB.out)) hb); clear HB; have HB := n0_; clear n0_; (try clear hb); (try clear hb2); (try clear hk); (try clear hi)) | (go_at_call 26; (with_reducible refine (plan_Mirror.calls kj5 a1 a2 (Int.tmod (wrap64 ((Int.tmod a0 6) + 6)) 6) true _ A71.out).mono ?_); rintro e w83 ⟨rfl, hb⟩; have n0_ := Aside0.mk (below_step (by repeat (first | (with_reducible first | exact HB.out | apply below_alloc | apply pw_below_drewN | apply below_drew1) | exact HB.out)) hb); clear HB; have HB := n0_; clear n0_; (try clear hb); (try clear hb2); (try clear hk); (try clear hi)) | (go_at_call 31; (with_reducible refine (plan_Due.calls kj5 a1 a2 (wrap64 ((Int.tmod (wrap64 ((Int.tmod a0 6) + 6)) 6) + 1)) false _ A73.out).mono ?_); rintro e w84 ⟨rfl, hb⟩; have n0_ := Aside0.mk (below_step (by repeat (first | (with_reducible first | exact HB.out | apply below_alloc | apply pw_below_drewN | apply below_drew1) | exact HB.out)) hb); clear HB; have HB := n0_; clear n0_; (try clear hb); (try clear hb2); (try clear hk); (try clear hi)))
                  go_ret
                  exact ⟨by first | rfl | (simp [errW_none, errW_some] <;> rfl) | (simp [*, errW_none, errW_some] <;> rfl), by repeat (first | (with_reducible first | exact HB.out | apply below_alloc | apply pw_below_drewN | apply below_drew1) | exact HB.out)⟩
              · replace c72 := Bool.eq_false_iff.mpr c72
                subst c72
                have H1 : (some false) = some r := by rw [if_neg (show ¬ (false = true) by decide)] at H; exact H
                clear H
                have H := H1
                clear H1
                obtain rfl := Option.some.inj H
                go_wp2_with (first | ((with_reducible refine gate_callee (f := 28) rfl ?_); refine goesL_ (some 38) rfl rfl Try.func28 (by kernel_rfl) rfl #[.int .i64 a1, .int .i64 a2, .int .i64 (wrap64 ((Int.tmod (wrap64 ((Int.tmod a0 6) + 6)) 6) + 1))] rfl (by (try simp only [List.map_toArray, List.map_cons, List.map_nil]); first | done | rfl | (simp only [List.length_drop, List.length_take]; rfl)) ?_; (with_reducible refine (plan_Release.calls kj5 a1 a2 (wrap64 ((Int.tmod (wrap64 ((Int.tmod a0 6) + 6)) 6) + 1)) false _ A29.out).mono ?_); rintro e w85 ⟨rfl, hb⟩; refine ⟨_, rfl, ?_⟩; have n0_ := Aside0.mk (below_step (by repeat (first | (with_reducible first | exact HB.out | apply below_alloc | apply pw_below_drewN | apply below_drew1) | exact HB.out)) hb); clear HB; have HB := n0_; clear n0_; (try clear hb); (try clear hb2); (try clear hk); (try clear hi)) | (go_at_call 26; (with_reducible refine (plan_Mirror.calls kj5 a1 a2 (wrap64 ((Int.tmod (wrap64 ((Int.tmod a0 6) + 6)) 6) + 1)) true _ A69.out).mono ?_); rintro e w86 ⟨rfl, hb⟩; have n0_ := Aside0.mk (below_step (by repeat (first | (with_reducible first | exact HB.out | apply below_alloc | apply pw_below_drewN | apply below_drew1) | exact HB.out)) hb); clear HB; have HB := n0_; clear n0_; (try clear hb); (try clear hb2); (try clear hk); (try clear hi)) | (go_at_call 26; (with_reducible refine (plan_Mirror.calls kj5 a1 a2 (Int.tmod (wrap64 ((Int.tmod a0 6) + 6)) 6) false _ A71.out).mono ?_); rintro e w87 ⟨rfl, hb⟩; have n0_ := Aside0.mk (below_step (by repeat (first | (with_reducible first | exact HB.out | apply below_alloc | apply pw_below_drewN | apply below_drew1) | exact HB.out)) hb); clear HB; have HB := n0_; clear n0_; (try clear hb); (try clear hb2); (try clear hk); (try clear hi)))
                go_ret
                exact ⟨by first | rfl | (simp [errW_none, errW_some] <;> rfl) | (simp [*, errW_none, errW_some] <;> rfl), by repeat (first | (with_reducible first | exact HB.out | apply below_alloc | apply pw_below_drewN | apply below_drew1) | exact HB.out)⟩
            · replace c70 := Bool.eq_false_iff.mpr c70
              subst c70
              have H1 : ((plan_Due.f kj5 a1 a2 (wrap64 ((Int.tmod (wrap64 ((Int.tmod a0 6) + 6)) 6) + 1))).bind fun t137 => (if t137 = true then ((plan_Due.f kj5 a1 a2 (Int.tmod (wrap64 ((Int.tmod a0 6) + 6)) 6)).bind fun t138 => (some t138)) else (some true))) = some r := by rw [if_neg (show ¬ (false = true) by decide)] at H; exact H
              clear H
              have H := H1
              clear H1
              replace H := Option.bind_eq_some_iff.mp H
              obtain ⟨t137, A880, H⟩ := H
              replace H : (if t137 = true then ((plan_Due.f kj5 a1 a2 (Int.tmod (wrap64 ((Int.tmod a0 6) + 6)) 6)).bind fun t138 => (some t138)) else (some true)) = some r := H
              have A88 := Aside0.mk A880
              clear A880
              by_cases c89 : t137 = true
              · subst c89
                have H1 : ((plan_Due.f kj5 a1 a2 (Int.tmod (wrap64 ((Int.tmod a0 6) + 6)) 6)).bind fun t138 => (some t138)) = some r := by rw [if_pos rfl] at H; exact H
                clear H
                have H := H1
                clear H1
                replace H := Option.bind_eq_some_iff.mp H
                obtain ⟨t138, A900, H⟩ := H
                replace H : (some t138) = some r := H
                have A90 := Aside0.mk A900
                clear A900
                obtain rfl := Option.some.inj H
                go_wp2_with (first | ((with_reducible refine gate_callee (f := 28) rfl ?_); refine goesL_ (some 38) rfl rfl Try.func28 (by kernel_rfl) rfl #[.int .i64 a1, .int .i64 a2, .int .i64 (wrap64 ((Int.tmod (wrap64 ((Int.tmod a0 6) + 6)) 6) + 1))] rfl (by (try simp only [List.map_toArray, List.map_cons, List.map_nil]); first | done | rfl | (simp only [List.length_drop, List.length_take]; rfl)) ?_; (with_reducible refine (plan_Release.calls kj5 a1 a2 (wrap64 ((Int.tmod (wrap64 ((Int.tmod a0 6) + 6)) 6) + 1)) false _ A29.out).mono ?_); rintro e w91 ⟨rfl, hb⟩; refine ⟨_, rfl, ?_⟩; have n0_ := Aside0.mk (below_step (by repeat (first | (with_reducible first | exact HB.out | apply below_alloc | apply pw_below_drewN | apply below_drew1) | exact HB.out)) hb); clear HB; have HB := n0_; clear n0_; (try clear hb); (try clear hb2); (try clear hk); (try clear hi)) | (go_at_call 26; (with_reducible refine (plan_Mirror.calls kj5 a1 a2 (wrap64 ((Int.tmod (wrap64 ((Int.tmod a0 6) + 6)) 6) + 1)) false _ A69.out).mono ?_); rintro e w92 ⟨rfl, hb⟩; have n0_ := Aside0.mk (below_step (by repeat (first | (with_reducible first | exact HB.out | apply below_alloc | apply pw_below_drewN | apply below_drew1) | exact HB.out)) hb); clear HB; have HB := n0_; clear n0_; (try clear hb); (try clear hb2); (try clear hk); (try clear hi)) | (go_at_call 31; (with_reducible refine (plan_Due.calls kj5 a1 a2 (wrap64 ((Int.tmod (wrap64 ((Int.tmod a0 6) + 6)) 6) + 1)) true _ A88.out).mono ?_); rintro e w93 ⟨rfl, hb⟩; have n0_ := Aside0.mk (below_step (by repeat (first | (with_reducible first | exact HB.out | apply below_alloc | apply pw_below_drewN | apply below_drew1) | exact HB.out)) hb); clear HB; have HB := n0_; clear n0_; (try clear hb); (try clear hb2); (try clear hk); (try clear hi)) | (go_at_call 31; (with_reducible refine (plan_Due.calls kj5 a1 a2 (Int.tmod (wrap64 ((Int.tmod a0 6) + 6)) 6) t138 _ A90.out).mono ?_); rintro e w94 ⟨rfl, hb⟩; have n0_ := Aside0.mk (below_step (by repeat (first | (with_reducible first | exact HB.out | apply below_alloc | apply pw_below_drewN | apply below_drew1) | exact HB.out)) hb); clear HB; have HB := n0_; clear n0_; (try clear hb); (try clear hb2); (try clear hk); (try clear hi)))
                go_ret
                exact ⟨by first | rfl | (simp [errW_none, errW_some] <;> rfl) | (simp [*, errW_none, errW_some] <;> rfl), by repeat (first | (with_reducible first | exact HB.out | apply below_alloc | apply pw_below_drewN | apply below_drew1) | exact HB.out)⟩
              · replace c89 := Bool.eq_false_iff.mpr c89
                subst c89
                have H1 : (some true) = some r := by rw [if_neg (show ¬ (false = true) by decide)] at H; exact H
                clear H
                have H := H1
                clear H1
                obtain rfl := Option.some.inj H
                go_wp2_with (first | ((with_reducible refine gate_callee (f := 28) rfl ?_); refine goesL_ (some 38) rfl rfl Try.func28 (by kernel_rfl) rfl #[.int .i64 a1, .int .i64 a2, .int .i64 (wrap64 ((Int.tmod (wrap64 ((Int.tmod a0 6) + 6)) 6) + 1))] rfl (by (try simp only [List.map_toArray, List.map_cons, List.map_nil]); first | done | rfl | (simp only [List.length_drop, List.length_take]; rfl)) ?_; (with_reducible refine (plan_Release.calls kj5 a1 a2 (wrap64 ((Int.tmod (wrap64 ((Int.tmod a0 6) + 6)) 6) + 1)) false _ A29.out).mono ?_); rintro e w95 ⟨rfl, hb⟩; refine ⟨_, rfl, ?_⟩; have n0_ := Aside0.mk (below_step (by repeat (first | (with_reducible first | exact HB.out | apply below_alloc | apply pw_below_drewN | apply below_drew1) | exact HB.out)) hb); clear HB; have HB := n0_; clear n0_; (try clear hb); (try clear hb2); (try clear hk); (try clear hi)) | (go_at_call 26; (with_reducible refine (plan_Mirror.calls kj5 a1 a2 (wrap64 ((Int.tmod (wrap64 ((Int.tmod a0 6) + 6)) 6) + 1)) false _ A69.out).mono ?_); rintro e w96 ⟨rfl, hb⟩; have n0_ := Aside0.mk (below_step (by repeat (first | (with_reducible first | exact HB.out | apply below_alloc | apply pw_below_drewN | apply below_drew1) | exact HB.out)) hb); clear HB; have HB := n0_; clear n0_; (try clear hb); (try clear hb2); (try clear hk); (try clear hi)) | (go_at_call 31; (with_reducible refine (plan_Due.calls kj5 a1 a2 (wrap64 ((Int.tmod (wrap64 ((Int.tmod a0 6) + 6)) 6) + 1)) false _ A88.out).mono ?_); rintro e w97 ⟨rfl, hb⟩; have n0_ := Aside0.mk (below_step (by repeat (first | (with_reducible first | exact HB.out | apply below_alloc | apply pw_below_drewN | apply below_drew1) | exact HB.out)) hb); clear HB; have HB := n0_; clear n0_; (try clear hb); (try clear hb2); (try clear hk); (try clear hi)))
                go_ret
                exact ⟨by first | rfl | (simp [errW_none, errW_some] <;> rfl) | (simp [*, errW_none, errW_some] <;> rfl), by repeat (first | (with_reducible first | exact HB.out | apply below_alloc | apply pw_below_drewN | apply below_drew1) | exact HB.out)⟩
  · replace c5 := Bool.eq_false_iff.mpr c5
    subst c5
    have H1 : (some false) = some r := by rw [if_neg (show ¬ (false = true) by decide)] at H; exact H
    clear H
    have H := H1
    clear H1
    obtain rfl := Option.some.inj H
    go_enter Try.func5, Try.ntmps5
    go_wp2_with (first | ((with_reducible refine gate_callee (f := 24) rfl ?_); refine goesL_ (some 8) rfl rfl Try.func24 (by kernel_rfl) rfl #[] rfl (by (try simp only [List.map_toArray, List.map_cons, List.map_nil]); first | done | rfl | (simp only [List.length_drop, List.length_take]; rfl)) ?_; (with_reducible refine (narrowslaw17_alive.calls  false _ A4.out).mono ?_); rintro e w98 ⟨rfl, hb⟩; refine ⟨_, rfl, ?_⟩; have n0_ := Aside0.mk (below_step (by repeat (first | (with_reducible first | exact HB.out | apply below_alloc | apply pw_below_drewN | apply below_drew1) | exact HB.out)) hb); clear HB; have HB := n0_; clear n0_; (try clear hb); (try clear hb2); (try clear hk); (try clear hi)))
    go_ret
    exact ⟨by first | rfl | (simp [errW_none, errW_some] <;> rfl) | (simp [*, errW_none, errW_some] <;> rfl), by repeat (first | (with_reducible first | exact HB.out | apply below_alloc | apply pw_below_drewN | apply below_drew1) | exact HB.out)⟩

/-- THE ONE PURE STATEMENT of narrowslaw17_PlanRises: yours. -/
def narrowslaw17_PlanRises.Pure : Prop := ∀ (a0 : Int) (a1 : Int) (a2 : Int), (Lit.int .i64 a0).wf = true → (Lit.int .i64 a1).wf = true → (Lit.int .i64 a2).wf = true → ∃ k, narrowslaw17_PlanRises.f k a0 a1 a2 = some true
theorem narrowslaw17_PlanRises.walk (P : narrowslaw17_PlanRises.Pure) (a0 : Int) (a1 : Int) (a2 : Int) (w : World) (w0 : (Lit.int .i64 a0).wf = true) (w1 : (Lit.int .i64 a1).wf = true) (w2 : (Lit.int .i64 a2).wf = true) :
    Calls Try.prog 5 #[.int .i64 a0, .int .i64 a1, .int .i64 a2] w fun e w' => e = .returned (.bool true) ∧ Below w.heap.size w w' := by
  obtain ⟨k, h⟩ := P a0 a1 a2 w0 w1 w2
  refine (narrowslaw17_PlanRises.calls k a0 a1 a2 true w h).mono ?_
  rintro e w' ⟨rfl, hd⟩
  exact ⟨rfl, hd⟩

end Go.Proofs.Ytnbckkpflmpnlaa.PPlanRises
