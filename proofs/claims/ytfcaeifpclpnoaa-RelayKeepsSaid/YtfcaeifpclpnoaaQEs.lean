/-
  Stops with an error's number: they go up to who takes them. No conditions.
-/
import Derived.Test.YtfcaeifpclpnoaaQFv
namespace Go.Proofs.Ytfcaeifpclpnoaa.Eng
open Go Go.RowKit
set_option linter.unusedVariables false
set_option linter.unusedSimpArgs false
set_option linter.unusedSectionVars false
/-- A stop with an error's number. -/
def mustCh (T : Nat) (e : Int) : List PanicEntry := [{ v := .iface T (.agg #[.int .i64 e]), recovered := false }]
/-- It gives this, or stops with an error. -/
def RetE (T : Nat) (err : Int) (v : Value) (H2 : List Asrt) : Ending → List Asrt → Prop := fun e H => (err = 0 ∧ e = .returned v ∧ H = H2) ∨ (err ≠ 0 ∧ e = .panicked (mustCh T err) ∧ H = [])
section
variable {P : Program} {c : Cx} {l : TL} {H : List Asrt} {Q : Exit → Act → World → Prop} {X : Act → World → Prop}
variable {ty : TypeId} {pos : String} {af : Array Edge} {d : Nat} {v : Value} {dst : Option Tmp} {mm : Nat}
theorem Qv.mkIface {S f off n : Nat} {agg : Bool} [i : FldT P S f off agg n] {x : Operand} (hx : ev l x = some v) : Qv P mm l (.makeInterface S x) (.iface S v) := fun a w _ _ _ _ s => by
  obtain ⟨fs, y, h1, h2, _⟩ := run_field (P := P) (S := S) (f := f) w
  simp [execOp, s.ev hx, Instr.makeInterface, run_und h1]
theorem J.panicOp {S : Nat} {x : Operand} (hx : ev l x = some (.iface S v)) (K : J c l H (Q (.panic [{ v := .iface S v, recovered := false }]))) : J c l H (OW P Q ⟨none, .panic x, ty, pos, af, none⟩ X) := J.mk fun a w s => by
  unfold OW Oper.wp
  have h : (execOp a.eval ⟨none, .panic x, ty, pos, af, none⟩).run P w = .halt (.panic (.iface S v)) w := by
    simp [execOp, s.1.ev hx, Instr.panic, goPanic, Sem.run]
  rw [h]
  exact K a w s
theorem J.storeFull {T n : Nat} {z : List Value} [i : Ty P T true n z] {x y : Operand} {b : Nat} {C vs : List Value} {E : TypeId} {H' : List Asrt} (hx : ev l x = some (.pointer (some ⟨b, 0, none⟩))) (hy : ev l y = some (.agg vs.toArray))
    (hu : Upd (blk b C E) (blk b vs E) H H') (hn : vs.length = n) (hl : C.length = n) (h1 : vs.all (·.oneCell') = true)
    (K : J c l H' X) : J c l H (OW P Q ⟨none, .store T x y, ty, pos, af, none⟩ X) :=
  J.storeN (T := T) hx hy hu (by unfold splice; rw [List.take_zero, List.nil_append, Nat.zero_add, List.drop_eq_nil_of_le (by omega), List.append_nil]) hn (by omega) h1 K
theorem Qr.loadFull {T n : Nat} {z : List Value} [i : Ty P T true n z] {x : Operand} {b : Nat} {C : List Value} {E : TypeId} (hx : ev l x = some (.pointer (some ⟨b, 0, none⟩))) (hm : In (blk b C E) H) (hn : C.length = n) : Qr P c l H (.load T x) (.agg C.toArray) :=
  Qr.loadN hx hm (by rw [List.drop_zero, List.take_of_length_le (by omega)]) hn
/-- A cell of a row is set. -/
theorem J.rowStore1 {T : Nat} {z : List Value} [i : Ty P T false 1 z] {x y : Operand} {ao : Option Addr} {n cap E sz j : Nat} {C : List Value} {H' : List Asrt} (hx : ev l x = some (.pointer (some ((ao.getD ⟨0, 0, none⟩).add j)))) (hy : ev l y = some v) (h1 : v.oneCell' = true)
    (ho : Out (row (.slice ao n cap) E sz n C) H H') (hj : j < C.length)
    (K : J c l (row (.slice ao n cap) E sz n (splice C j [v]) :: H') X) : J c l H (OW P Q ⟨none, .store T x y, ty, pos, af, none⟩ X) := by
  refine J.perm ho.perm ?_
  refine J.mk fun a w s => ?_
  obtain ⟨fp, ⟨f, g0, rfl, hr, hg⟩, hn, hi, hf⟩ := s.2.2
  rcases hr with ⟨_, _, h3, _⟩ | ⟨g, cp, h1', rfl, hl, hc, hm, cur, hcur, hs, ht⟩
  · rw [h3] at hj; simp at hj
  · cases h1'
    have hadd : ((some (⟨g, 0, none⟩ : Addr)).getD ⟨0, 0, none⟩).add j = ⟨g, j, none⟩ := by
      show (⟨g, 0, none⟩ : Addr).add j = _
      rw [addr_add, Nat.zero_add]
    rw [hadd] at hx
    have hjc : j + 1 ≤ cur.toList.length := by
      have h2 := congrArg List.length ht
      rw [List.length_take] at h2
      omega
    have s2 : St c l (blk g cur.toList E :: H') a w := ⟨s.1, s.2.1, [g] ++ g0, ⟨[g], g0, rfl, ⟨rfl, by simpa using hcur⟩, hg⟩, hn, hi, hf⟩
    refine (J.store1 (T := T) hx hy h1 .here rfl hjc ?_).out a w s2
    refine J.mk fun a w s => K.out a w ⟨s.1, s.2.1, s.2.2.conv fun h fp hh => ?_⟩
    obtain ⟨hfp, hb⟩ := hh
    refine .inr ⟨g, cap, rfl, hfp, ?_, hc, hm, _, hb, ?_, ?_⟩
    · rw [splice, List.length_append, List.length_append, List.length_take, List.length_drop]
      simp
      omega
    · simp [splice]
      simp at hjc
      omega
    · rw [← ht]
      simp only [splice]
      have hjn : j + 1 ≤ n * sz := by rw [hl] at hj; omega
      simp only [List.length_singleton]
      rw [List.take_append, List.take_append, List.length_append, List.length_take, List.length_singleton]
      rw [List.take_take, List.take_take, List.drop_take]
      rw [List.take_of_length_le (l := [v]) (by simp; omega)]
      congr 1
      · congr 2
        omega
      · congr 1
        omega
/-- A call that may stop. -/
theorem J.retE {f T : Nat} [i : Enters P f] {xs : List Operand} {ts : Array TypeId} {vs : List Value} {H1 H2 R : List Asrt} {err : Int} {p : Prop} (hS : ∀ w, p → CSpec P f vs H1 w (RetE T err v H2)) (hd : Nat.blt d c.n = true) (hx : evs l xs = some vs) (ho : Outs H1 H R) (hp : p)
    (K : err = 0 → J c ((d, v) :: l) (H2 ++ R) X) (K2 : err ≠ 0 → J c l R (Q (.panic (mustCh T err)))) : J c l H (OW P Q ⟨some d, .call ⟨.value (.func f), xs.toArray, ts⟩, ty, pos, af, none⟩ X) :=
  J.call hd hx ho (fun w _ => hS w hp)
    (fun v H3 h => by
      rcases h with ⟨h0, h1, h2⟩ | ⟨_, h1, _⟩
      · cases h1; subst h2; exact K h0
      · cases h1)
    (fun ch H3 h => by
      rcases h with ⟨_, h1, _⟩ | ⟨h0, h1, h2⟩
      · cases h1
      · cases h1; subst h2; exact K2 h0)
    (fun H3 h => by
      rcases h with ⟨_, h1, _⟩ | ⟨_, h1, _⟩ <;> cases h1)
/-- A call that may stop, by what is told of the world. -/
theorem J.retER {f T : Nat} [i : Enters P f] {xs : List Operand} {ts : Array TypeId} {vs : List Value} {err : Int} {pre : World → Prop} (hS : ∀ w, pre w → CSpec P f vs [] w (RetE T err v [])) (hd : Nat.blt d c.n = true) (hx : evs l xs = some vs) (hp : RH c.w0 c.own H pre)
    (K : err = 0 → J c ((d, v) :: l) H X) (K2 : err ≠ 0 → J c l H (Q (.panic (mustCh T err)))) : J c l H (OW P Q ⟨some d, .call ⟨.value (.func f), xs.toArray, ts⟩, ty, pos, af, none⟩ X) :=
  J.callS hd hx .nil (fun w s => hS w (hp w s))
    (fun v H3 h => by
      rcases h with ⟨h0, h1, h2⟩ | ⟨_, h1, _⟩
      · cases h1; subst h2; exact K h0
      · cases h1)
    (fun ch H3 h => by
      rcases h with ⟨_, h1, _⟩ | ⟨h0, h1, h2⟩
      · cases h1
      · cases h1; subst h2; exact K2 h0)
    (fun H3 h => by
      rcases h with ⟨_, h1, _⟩ | ⟨_, h1, _⟩ <;> cases h1)
theorem J.fine {T : Nat} {err : Int} {r r' : Value} {H2 R : List Asrt} (he : err = 0) (hr : r = r') (ho : Outs H2 H R) : J c l H (fun _ w => ∃ H3, RetE T err r' H2 (.returned r) H3 ∧ Sat c.w0 c.own H3 w) := J.post (.inl ⟨he, by rw [hr], rfl⟩) ho
theorem J.stops {T : Nat} {err e : Int} {r' : Value} {H2 : List Asrt} (he : err ≠ 0) (hr : e = err) : J c l H (fun _ w => ∃ H3, RetE T err r' H2 (.panicked (mustCh T e)) H3 ∧ Sat c.w0 c.own H3 w) := J.post (.inr ⟨he, by rw [hr], rfl⟩) .nil
theorem J.stops0 {T : Nat} {err e : Int} {r' : Value} {H2 : List Asrt} (he : err ≠ 0) (hr : e = err) : J c l H (fun _ w => ∃ H3, RetE T err r' H2 (.panicked [{ v := .iface T (.agg #[.int .i64 e]), recovered := false }]) H3 ∧ Sat c.w0 c.own H3 w) := J.stops he hr
end
end Go.Proofs.Ytfcaeifpclpnoaa.Eng
