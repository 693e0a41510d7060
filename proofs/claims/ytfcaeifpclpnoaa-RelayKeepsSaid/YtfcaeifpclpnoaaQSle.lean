/-
  More of slices and strings: nil, new rows of nothing, room, beginnings and ends. No conditions.
-/
import Derived.Test.YtfcaeifpclpnoaaQRd
import Derived.Laws.Cover3
namespace Go.Proofs.Ytfcaeifpclpnoaa.Eng
open Go Go.RowKit
set_option linter.unusedVariables false
set_option linter.unusedSimpArgs false
set_option linter.unusedSectionVars false
section
variable {P : Program} {c : Cx} {l : TL} {H : List Asrt} {Q : Exit → Act → World → Prop} {X : Act → World → Prop}
variable {ty : TypeId} {pos : String} {af : Array Edge} {d : Nat} {v : Value} {dst : Option Tmp} {mm : Nat}

theorem Qv.nilS {T T' E bytes : Nat} [i : Sl P T E bytes] {x : Operand} {ao : Option Addr} {n cap : Nat} (hx : ev l x = some (.slice ao n cap)) : Qv P mm l (.binOp .eql T x (.const (.slice none 0 0)) T') (.bool ao.isNone) := fun a w _ _ _ _ s => by
  have h := run_equal_slice_nil (P := P) w T E ao n cap i.und
  have hc : a.eval (.const (.slice none 0 0)) = .slice none 0 0 := rfl
  simp [execOp, s.ev hx, hc, eqGuard, binOp, h]
theorem Qv.nnilS {T T' E bytes : Nat} [i : Sl P T E bytes] {x : Operand} {ao : Option Addr} {n cap : Nat} (hx : ev l x = some (.slice ao n cap)) : Qv P mm l (.binOp .neq T x (.const (.slice none 0 0)) T') (.bool (!ao.isNone)) := fun a w _ _ _ _ s => by
  have h := run_equal_slice_nil (P := P) w T E ao n cap i.und
  have hc : a.eval (.const (.slice none 0 0)) = .slice none 0 0 := rfl
  simp [execOp, s.ev hx, hc, eqGuard, binOp, h]

/-- A row of nothing, not nil. -/
theorem J.buildRow0 {T E bytes agg n z} [i : Sl P T E bytes] [t : Ty P E agg n z] (hd : Nat.blt d c.n = true)
    (K : ∀ b, J c ((d, .slice (some ⟨b, 0, none⟩) 0 0) :: l) (row (.slice (some ⟨b, 0, none⟩) 0 0) E n 0 [] :: H) X) : J c l H (OW P Q ⟨some d, .buildSlice T 0 #[], ty, pos, af, none⟩ X) :=
  J.buildSlice0 hd fun b => J.mk fun a w s => (K b).out a w ⟨s.1, s.2.1, s.2.2.conv fun _ _ hh => blkRow_ (by simp) (Nat.zero_le _) hh⟩
/-- append(nil, make([]T, n)...): room for n. -/
theorem run_append_make {T U E : Nat} {bytes sz : Nat} {agg : Bool} {z : List Value} [i : Sl P T E bytes] [t : Ty P E agg sz z] [u : Ik P U .i64] {tt : TypeId} (w : World) {n : Nat} (hz : z.length = sz) (hsz : (sz == 0) = false) (h0 : 0 < n) (h63 : n ≤ maxLen) (hby : n * bytes ≤ 140737488355328) :
    ∃ C : Array Value, C.size = grownCap w n 0 E * z.length ∧ (Builtin.append_ #[T, U] tt #[.slice none 0 0, .int .i64 (n : Int)]).run P w = .ok (.slice (some ⟨w.heap.size, 0, none⟩) n (grownCap w n 0 E)) (w.drew.alloc (.cells C E)) := by
  have hsi := t.siz
  have hzi := t.zer
  have hbi := i.byt
  obtain ⟨inf, hinf⟩ : ∃ inf, P.info? E = some inf := by
    cases hu : P.info? E with
    | none => rw [hu] at hsi; cases hsi
    | some x => exact ⟨x, rfl⟩
  rw [hinf] at hsi hzi hbi
  simp only [Option.map_some, Option.some.injEq] at hsi hzi hbi
  obtain ⟨zv, hzv⟩ : ∃ zv, inf.zero = some zv := by
    cases hu : inf.zero with
    | none => rw [hu] at hzi; cases hzi
    | some x => exact ⟨x, rfl⟩
  rw [hzv] at hzi
  simp only [Option.map_some, Option.some.injEq] at hzi
  have hzs : zv.cells.size = z.length := by rw [hzi]; simp
  have hw : IntKind.i64.wrap (n : Int) = (n : Int) := wr64 (by omega) (by simp only [maxLen] at h63; omega) rfl
  have b1 : ¬ (n : Int) < 0 := by omega
  have b2 : ¬ (281474976710656 < (n : Int) * (inf.bytes : Int)) := by
    have : ((n * bytes : Nat) : Int) ≤ 140737488355328 := by omega
    rw [Int.natCast_mul, ← hbi] at this
    omega
  have b3 : ¬ (n ≤ 0) := by omega
  have b4 : ¬ (9223372036854775807 < ((n : Nat) : Int)) := by
    simp only [maxLen] at h63; omega
  have b6 : ¬ (n = 0) := by omega
  have b5 : ¬ (281474976710656 < Builtin.nextslicecap n 0 * inf.bytes) := by
    rw [nextslicecap_zero h0, hbi]
    omega
  have hge := grownCap_ge w n 0 E
  have hn0 : ¬ n * inf.size = 0 := by
    rw [hsi]
    have : sz ≠ 0 := by simpa using hsz
    exact Nat.mul_ne_zero (by omega) this
  refine ⟨Builtin.zeroCells zv.cells n ++ Builtin.zeroCells zv.cells (grownCap w n 0 E - n), ?_, ?_⟩
  · rw [Array.size_append, size_zeroCells, size_zeroCells, hzs, ← Nat.add_mul]
    congr 1
    omega
  · simp [Builtin.append_, run_und i.und, run_und u.und, sizeOf, typeInfo, zeroValue, hinf, hzv, asInt, asIntOf, hw, b1, b2, b3, b4, b5, b6, hn0, Question.forced, newRow, grownCap, Builtin.firstCells]
theorem J.appendMake {T U E : Nat} {bytes sz : Nat} {agg : Bool} {z : List Value} [i : Sl P T E bytes] [t : Ty P E agg sz z] [u : Ik P U .i64] {s x : Operand} {n : Nat} {k : Int} (hd : Nat.blt d c.n = true) (hs : ev l s = some (.slice none 0 0)) (hx : ev l x = some (.int .i64 k)) (hk : k = (n : Int)) (hz : z.length = sz) (hsz : (sz == 0) = false) (h0 : 0 < n) (h63 : n ≤ maxLen) (hby : n * bytes ≤ 140737488355328)
    (K : ∀ q : Nat × Nat, n ≤ q.2 → J c ((d, .slice (some ⟨q.1, 0, none⟩) n q.2) :: l) (row (.slice (some ⟨q.1, 0, none⟩) 0 q.2) E sz 0 [] :: H) X) : J c l H (OW P Q ⟨some d, .call ⟨.builtin .append, #[s, x], #[T, U]⟩, ty, pos, af, none⟩ X) :=
  J.opv fun a w st => by
    subst hk
    obtain ⟨C, hC, hr⟩ := run_append_make (P := P) (T := T) (U := U) (E := E) (bytes := bytes) (tt := ty) w hz hsz h0 h63 hby
    have hge := grownCap_ge w n 0 E
    have hcm := grownCap_le_maxLen w n 0 E h63
    obtain ⟨cbs, hrun⟩ := run_builtin (P := P) (b := .append) (xs := [s, x]) (ts := #[T, U]) (vs := [.slice none 0 0, .int .i64 (n : Int)]) (dst := some d) (ty := ty) (pos := pos) (af := af) st.1 (by simp [evs, hs, hx]) w
    rw [show ([s, x] : List Operand).toArray = #[s, x] from rfl] at hrun
    refine ⟨_, w.drew.alloc (.cells C E), ?_, K (w.heap.size, grownCap w n 0 E) hge _ _ ⟨st.1.put hd, st.2.1, st.2.2.drew.new _ _ fun h' hh => ?_⟩⟩
    · rw [hrun]
      simp only [builtin, Sem.run_bind]
      rw [show ([Value.slice none 0 0, Value.int .i64 (n : Int)] : List Value).toArray = #[.slice none 0 0, .int .i64 (n : Int)] from rfl, hr]
      rfl
    · exact .inr ⟨w.heap.size, grownCap w n 0 E, rfl, rfl, by simp, Nat.zero_le _, hcm, C, hh, by rw [hC, hz], by simp⟩
/-- A row's beginning. -/
theorem J.rowTo {ao : Option Addr} {n cap E sz k : Nat} {C : List Value} {H' : List Asrt} {G : Act → World → Prop} (ho : Out (row (.slice ao n cap) E sz n C) H H') (hk : k ≤ n) (K : J c l (row (.slice ao k cap) E sz k (C.take (k * sz)) :: H') G) : J c l H G := J.mk fun a w s =>
  K.out a w ⟨s.1, s.2.1, (s.2.2.perm ho.perm).conv fun h fp hh => by
    rcases hh with ⟨h1, h2, h3, h4⟩ | ⟨g, cp, h1, rfl, hl, hc, hm, cur, hg, hs, ht⟩
    · cases h1
      obtain rfl : k = 0 := by omega
      exact .inl ⟨rfl, rfl, by rw [h3]; simp, h4⟩
    · cases h1
      refine .inr ⟨g, cap, rfl, rfl, ?_, by omega, hm, cur, hg, hs, ?_⟩
      · rw [List.length_take, hl]
        exact Nat.min_eq_left (Nat.mul_le_mul_right _ hk)
      · rw [← ht, List.take_take, Nat.min_eq_left (Nat.mul_le_mul_right _ hk)]⟩

/-! Strings -/
theorem Qv.slS {T : Nat} [i : StrT P T] {x : Operand} {lo hi : Option Operand} {s : List UInt8} {p r : Nat} (hx : ev l x = some (str s)) (hlo : Bd l lo 0 p) (hhi : Bd l hi s.length r) (h1 : p ≤ r) (h2 : r ≤ s.length) :
    Qv P mm l (.slice T x lo hi none) (str ((s.drop p).take (r - p))) := fun a w _ _ _ _ t => by
  have hs : (ByteArray.mk s.toArray).size = s.length := rfl
  have e := ByteArray.extract_mk s p r
  have e1 : ((match hi.map a.eval with
      | some v => Instr.sliceBound v s.length .sliceAlen
      | none => Pure.pure s.length : Sem Nat)).run P w = .ok r w := hhi.run t h2
  have e2 : ((match lo.map a.eval with
      | some v => Instr.sliceBound v r .sliceB
      | none => Pure.pure 0 : Sem Nat)).run P w = .ok p w := hlo.run t h1
  have e3 : (Instr.sliceBounds false s.length s.length (lo.map a.eval) (hi.map a.eval) none).run P w = .ok (p, r, s.length) w := by
    unfold Instr.sliceBounds
    cases hh : hi.map a.eval with
    | none =>
      rw [hh] at e1
      cases hl : lo.map a.eval with
      | none => rw [hl] at e2; simp at e1 e2 ⊢; omega
      | some u => rw [hl] at e2; simp at e1 e2 ⊢; subst e1; simp [e2]
    | some u =>
      rw [hh] at e1
      cases hl : lo.map a.eval with
      | none => rw [hl] at e2; simp at e1 e2 ⊢; simp [e1]; omega
      | some u' => rw [hl] at e2; simp at e1 e2 ⊢; simp [e1, e2]
  simp only [execOp, t.ev hx, Instr.sliceAt, Instr.slice, Sem.run_bind, run_und i.und, Result.andThen_ok]
  simp [hs, e3, e]
/-- append of a string. -/
theorem J.rowPack {v : Value} {n E : Nat} {bs : List UInt8} {V : List Value} {L : List (List UInt8)} {H1 H2 : List Asrt} {G : Act → World → Prop} (h1 : Out (row v E 1 n (bcs bs)) H H1) (h2 : Out (sepA (bsA V L)) H1 H2) (hn : n = bs.length) (hl : V.length = L.length)
    (K : J c l (sepA (bsA (V ++ [v]) (L ++ [bs])) :: H2) G) : J c l H G := J.mk fun a w s => by
  have s1 := (s.2.2.perm h1.perm).perm (h2.perm.cons _)
  obtain ⟨fp, ⟨f, g, rfl, ha, f', g', rfl, hb, hg⟩, hnd, hi, hf⟩ := s1
  refine K.out a w ⟨s.1, s.2.1, (f' ++ f) ++ g', ⟨f' ++ f, g', rfl, ?_, hg⟩, ?_, ?_, hf⟩
  · have key : ∀ {V : List Value} {L : List (List UInt8)} {f'}, V.length = L.length → Holds (hp w) (bsA V L) f' → Holds (hp w) (bsA (V ++ [v]) (L ++ [bs])) (f' ++ f) := by
      intro V
      induction V with
      | nil =>
        intro L f' hl hh
        cases L with
        | nil =>
          obtain rfl : f' = [] := hh
          exact ⟨f, [], by simp, row_bAt hn ha, rfl⟩
        | cons _ _ => simp at hl
      | cons u V ih =>
        intro L f' hl hh
        cases L with
        | nil => simp at hl
        | cons m L =>
          obtain ⟨f1, f2, rfl, h1, h2⟩ := hh
          exact ⟨f1, f2 ++ f, by simp, h1, ih (by simpa using hl) h2⟩
    exact key hl hb
  · have p : (f ++ (f' ++ g')).Perm ((f' ++ f) ++ g') := by
      rw [← List.append_assoc]
      exact List.perm_append_comm.append_right g'
    exact p.nodup_iff.1 hnd
  · intro i hi'
    refine hi i ?_
    simp only [List.mem_append] at hi' ⊢
    rcases hi' with (h | h) | h
    · exact .inr (.inl h)
    · exact .inl h
    · exact .inr (.inr h)
theorem J.packNil {G : Act → World → Prop} (K : J c l (sepA (bsA [] []) :: H) G) : J c l H G := J.mk fun a w s => by
  obtain ⟨fp, hh, hn, hi, hf⟩ := s.2.2
  exact K.out a w ⟨s.1, s.2.1, fp, ⟨[], fp, rfl, rfl, hh⟩, hn, hi, hf⟩
/-! What is handed over and comes back turned -/
def Turns (r : Value) (H2 : List Asrt) : Ending → List Asrt → Prop := fun e H => e = .returned r ∧ H = H2
theorem J.turnsP {f : Nat} [i : Enters P f] {xs : List Operand} {ts : Array TypeId} {vs : List Value} {H1 H2 R : List Asrt} {r : Value} {p : Prop} (hS : ∀ w, p → CSpec P f vs H1 w (Turns r H2)) (hd : Nat.blt d c.n = true) (hx : evs l xs = some vs) (ho : Outs H1 H R) (hp : p)
    (K : J c ((d, r) :: l) (H2 ++ R) X) : J c l H (OW P Q ⟨some d, .call ⟨.value (.func f), xs.toArray, ts⟩, ty, pos, af, none⟩ X) :=
  J.call hd hx ho (fun w _ => hS w hp) (fun v H3 ⟨h1, h2⟩ => by cases h1; subst h2; exact K) (fun ch H3 ⟨h1, _⟩ => by cases h1) (fun H3 ⟨h1, _⟩ => by cases h1)
theorem J.turned {r r' : Value} {H2 R : List Asrt} (e : r' = r) (ho : Outs H2 H R) : J c l H (fun _ w => ∃ H3, Turns r H2 (.returned r') H3 ∧ Sat c.w0 c.own H3 w) := J.mk fun a w s =>
  ⟨H2, ⟨by rw [e], rfl⟩, Sat.drops (H' := R) ((s.2.2.perm ho.perm).perm List.perm_append_comm)⟩
/-- A new thing, at its address. -/
def FreshP (A : Nat → List Asrt) : Ending → List Asrt → Prop := fun e H => ∃ p, e = .returned (.pointer (some ⟨p, 0, none⟩)) ∧ H = A p
theorem J.newP {f : Nat} [i : Enters P f] {xs : List Operand} {ts : Array TypeId} {vs : List Value} {A : Nat → List Asrt} {p : Prop} (hS : ∀ w, p → CSpec P f vs [] w (FreshP A)) (hd : Nat.blt d c.n = true) (hx : evs l xs = some vs) (hp : p)
    (K : ∀ b, J c ((d, .pointer (some ⟨b, 0, none⟩)) :: l) (A b ++ H) X) : J c l H (OW P Q ⟨some d, .call ⟨.value (.func f), xs.toArray, ts⟩, ty, pos, af, none⟩ X) :=
  J.call hd hx .nil (fun w _ => hS w hp) (fun v H3 ⟨b, h1, h2⟩ => by cases h1; subst h2; exact K b) (fun ch H3 ⟨b, h1, _⟩ => by cases h1) (fun H3 ⟨b, h1, _⟩ => by cases h1)
theorem run_ptr_nil (w : World) (T E : TypeId) (a b : Option Addr) (h : P.underlying T = some (.pointer E)) (hb : a = none ∨ b = none) : (Op.equal T (.pointer a) (.pointer b)).run P w = .ok (a.isNone && b.isNone) w := by
  have key : ∀ d, (Op.equalIn (d + 1) T (.pointer a) (.pointer b)).run P w = .ok (a.isNone && b.isNone) w := by
    intro d
    rcases hb with rfl | rfl
    · simp [Op.equalIn, run_und h]
    · cases a <;> simp [Op.equalIn, run_und h]
  exact key 9999
theorem Qv.ptrEq {T T' E : Nat} [i : Pt P T E] {x y : Operand} {a b : Option Addr} (hx : ev l x = some (.pointer a)) (hy : ev l y = some (.pointer b)) (hb : a = none ∨ b = none) : Qv P mm l (.binOp .eql T x y T') (.bool (a.isNone && b.isNone)) := fun ac w _ _ _ _ s => by
  have h := run_ptr_nil (P := P) w T E a b i.und hb
  simp [execOp, s.ev hx, s.ev hy, eqGuard, binOp, h]
theorem Qv.ptrNe {T T' E : Nat} [i : Pt P T E] {x y : Operand} {a b : Option Addr} (hx : ev l x = some (.pointer a)) (hy : ev l y = some (.pointer b)) (hb : a = none ∨ b = none) : Qv P mm l (.binOp .neq T x y T') (.bool (!(a.isNone && b.isNone))) := fun ac w _ _ _ _ s => by
  have h := run_ptr_nil (P := P) w T E a b i.und hb
  simp [execOp, s.ev hx, s.ev hy, eqGuard, binOp, h]

/-! Octets that are written -/
def outw (TO TB p : Nat) (bs : List UInt8) : Asrt where
  holds h fp := ∃ q : Option Addr × Nat, bs.length ≤ q.2 ∧ Holds h [blk p [.slice q.1 bs.length q.2, .int .i64 0, .bool true] TO, row (.slice q.1 bs.length q.2) TB 1 bs.length (bcs bs)] fp
  loc h h' fp he := by
    rintro ⟨q, hq, hh⟩
    exact ⟨q, hq, hh.loc he⟩
theorem J.openOut {TO TB p : Nat} {bs : List UInt8} {H' : List Asrt} {G : Act → World → Prop} (ho : Out (outw TO TB p bs) H H') (K : ∀ q : Option Addr × Nat, bs.length ≤ q.2 → J c l (blk p [.slice q.1 bs.length q.2, .int .i64 0, .bool true] TO :: row (.slice q.1 bs.length q.2) TB 1 bs.length (bcs bs) :: H') G) : J c l H G := J.mk fun a w s => by
  obtain ⟨fp, ⟨f, g, rfl, ⟨q, hq, hh⟩, hg⟩, hn, hi, hf⟩ := s.2.2.perm ho.perm
  exact (K q hq).out a w ⟨s.1, s.2.1, f ++ g, hh.append hg, hn, hi, hf⟩
theorem J.reOut {TO TB p : Nat} {bs bs' : List UInt8} {H' : List Asrt} {G : Act → World → Prop} (hu : Upd (outw TO TB p bs) (outw TO TB p bs') H H') (e : bs = bs') (K : J c l H' G) : J c l H G := by
  subst e
  have : H = H' := by
    clear K
    induction hu with
    | here => rfl
    | there _ ih => rw [ih]
  subst this
  exact K
/-- Octets and no error. -/
def DoneP (TB n : Nat) (C : List Value) (R : List Asrt) : Ending → List Asrt → Prop := fun e H => ∃ q : Option Addr × Nat, n ≤ q.2 ∧ e = .returned (.tuple #[.slice q.1 n q.2, .int .i64 0]) ∧ H = row (.slice q.1 n q.2) TB 1 n C :: R
theorem J.doneP {f : Nat} [i : Enters P f] {xs : List Operand} {ts : Array TypeId} {vs : List Value} {H1 H2 R : List Asrt} {TB n : Nat} {C : List Value} {p : Prop} (hS : ∀ w, p → CSpec P f vs H1 w (DoneP TB n C H2)) (hd : Nat.blt d c.n = true) (hx : evs l xs = some vs) (ho : Outs H1 H R) (hp : p)
    (K : ∀ q : Option Addr × Nat, n ≤ q.2 → J c ((d, .tuple #[.slice q.1 n q.2, .int .i64 0]) :: l) (row (.slice q.1 n q.2) TB 1 n C :: (H2 ++ R)) X) : J c l H (OW P Q ⟨some d, .call ⟨.value (.func f), xs.toArray, ts⟩, ty, pos, af, none⟩ X) :=
  J.call hd hx ho (fun w _ => hS w hp) (fun v H3 ⟨q, h0, h1, h2⟩ => by cases h1; subst h2; exact K q h0) (fun ch H3 ⟨q, _, h1, _⟩ => by cases h1) (fun H3 ⟨q, _, h1, _⟩ => by cases h1)
theorem J.done' {TB n m : Nat} {ao : Option Addr} {cap : Nat} {C C' : List Value} {R2 R : List Asrt} {r : Value} (h1 : Outs (row (.slice ao m cap) TB 1 m C :: R2) H R) (hr : r = .tuple #[.slice ao m cap, .int .i64 0]) (hn : m = n) (hC : C = C') (hc : m ≤ cap) : J c l H (fun _ w => ∃ H3, DoneP TB n C' R2 (.returned r) H3 ∧ Sat c.w0 c.own H3 w) := J.mk fun a w s => by
  subst hn; subst hC
  exact ⟨_, ⟨(ao, cap), hc, by rw [hr], rfl⟩, Sat.drops (H' := R) ((s.2.2.perm h1.perm).perm List.perm_append_comm)⟩
theorem J.shutOut {TO TB p n m : Nat} {ao : Option Addr} {cap : Nat} {bs : List UInt8} {H1 H2 : List Asrt} {C : List Value} {G : Act → World → Prop} (h1 : Out (blk p [.slice ao n cap, .int .i64 0, .bool true] TO) H H1) (h2 : Out (row (.slice ao n cap) TB 1 m C) H1 H2) (hn : n = bs.length) (hm : m = bs.length) (hC : C = bcs bs)
    (K : J c l (outw TO TB p bs :: H2) G) : J c l H G := J.mk fun a w s => by
  subst hn; subst hm; subst hC
  have s1 := s.2.2.perm (h1.perm.trans (h2.perm.cons _))
  have hc := (s1.rd_row (.there .here)).2.1
  obtain ⟨fp, ⟨f, g, rfl, ha, f', g', rfl, hb, hg⟩, hnd, hi, hf⟩ := s1
  refine K.out a w ⟨s.1, s.2.1, (f ++ f') ++ g', ⟨f ++ f', g', rfl, ⟨(ao, cap), hc, ⟨f, f', rfl, ha, f', [], by simp, hb, rfl⟩⟩, hg⟩, ?_, ?_, hf⟩
  · rw [List.append_assoc]; exact hnd
  · rw [List.append_assoc]; exact hi
end
end Go.Proofs.Ytfcaeifpclpnoaa.Eng
