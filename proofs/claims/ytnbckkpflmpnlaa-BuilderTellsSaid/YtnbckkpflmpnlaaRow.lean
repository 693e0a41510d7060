/-
  The engine, part 7: rows that grow by append; slices; the builtins. No conditions.
-/
import Derived.Test.YtnbckkpflmpnlaaOps2
import Derived.Laws.AppendOwn
namespace Go.Proofs.Ytnbckkpflmpnlaa.Eng
open Go Go.RowKit
set_option linter.unusedVariables false
set_option linter.unusedSectionVars false
set_option linter.unusedSimpArgs false

/-- Block g is a row of capacity cap, whose first n elements are the cells C. -/
def rowAt (g cap : Nat) (E sz n : Nat) (C : List Value) : Asrt where
  holds h fp := fp = [g] ∧ C.length = n * sz ∧ n ≤ cap ∧ cap ≤ maxLen ∧ ∃ cur : Array Value, h g = some (.cells cur E (0, 0)) ∧ cur.size = cap * sz ∧ cur.toList.take (n * sz) = C
  loc h h' fp he := by
    rintro ⟨rfl, h1, h2, h3, cur, h4, h5⟩
    exact ⟨rfl, h1, h2, h3, cur, (he g (by simp)).trans h4, h5⟩
/-- The slice v is nil, or such a row, of n elements. -/
def row (v : Value) (E sz n : Nat) (C : List Value) : Asrt where
  holds h fp := (v = .slice none 0 0 ∧ n = 0 ∧ C = [] ∧ fp = []) ∨ ∃ g cap, v = .slice (some ⟨g, 0, none⟩) n cap ∧ (rowAt g cap E sz n C).holds h fp
  loc h h' fp he := by
    rintro (h1 | ⟨g, cap, h1, h2⟩)
    · exact .inl h1
    · exact .inr ⟨g, cap, h1, (rowAt g cap E sz n C).loc h h' fp he h2⟩

theorem Sat.nilRow {w0 w own H} (h : Sat w0 own H w) (E sz : Nat) : Sat w0 own (row (.slice none 0 0) E sz 0 [] :: H) w := by
  obtain ⟨fp, hh, hn, hi, hf⟩ := h
  exact ⟨fp, ⟨[], fp, rfl, .inl ⟨rfl, rfl, rfl, rfl⟩, hh⟩, hn, hi, hf⟩
theorem J.nilRow {c l H G} (E sz : Nat) (K : J c l (row (.slice none 0 0) E sz 0 [] :: H) G) : J c l H G := J.mk fun a w s => K a w ⟨s.1, s.2.1, s.2.2.nilRow E sz⟩

/-- An assertion is told otherwise. -/
theorem Sat.conv {w0 w own A A' H} (h : Sat w0 own (A :: H) w) (hA : ∀ h fp, A.holds h fp → A'.holds h fp) : Sat w0 own (A' :: H) w := by
  obtain ⟨fp, ⟨f, g, e, ha, hg⟩, r⟩ := h
  exact ⟨fp, ⟨f, g, e, hA _ _ ha, hg⟩, r⟩
theorem rowAt.row {h fp g cap E sz n C} (hh : (rowAt g cap E sz n C).holds h fp) : (Eng.row (.slice (some ⟨g, 0, none⟩) n cap) E sz n C).holds h fp := .inr ⟨g, cap, rfl, hh⟩

/-- A row that is not empty is opened. -/
theorem J.openRow {c l H H' G v E sz n C} (ho : Out (row v E sz n C) H H') (hn : n ≠ 0) (K : ∀ g cap, v = .slice (some ⟨g, 0, none⟩) n cap → J c l (rowAt g cap E sz n C :: H') G) : J c l H G := J.mk fun a w s => by
  have s1 := s.2.2.perm ho.perm
  obtain ⟨fp, ⟨f, g, e, ha, hg⟩, r⟩ := s1
  rcases ha with ⟨_, h0, _⟩ | ⟨b, cap, hv, hr⟩
  · exact absurd h0 hn
  · exact K b cap hv a w ⟨s.1, s.2.1, fp, ⟨f, g, e, hr, hg⟩, r⟩
/-- Any row is opened: nil, or not. -/
theorem J.caseRow {c l H H' G v E sz n C} (ho : Out (row v E sz n C) H H') (K0 : v = .slice none 0 0 → n = 0 → C = [] → J c l H' G) (K : ∀ g cap, v = .slice (some ⟨g, 0, none⟩) n cap → J c l (rowAt g cap E sz n C :: H') G) : J c l H G := J.mk fun a w s => by
  have s1 := s.2.2.perm ho.perm
  obtain ⟨fp, ⟨f, g, e, ha, hg⟩, r⟩ := s1
  rcases ha with ⟨h1, h2, h3, h4⟩ | ⟨b, cap, hv, hr⟩
  · subst h4
    exact K0 h1 h2 h3 a w ⟨s.1, s.2.1, fp, by rw [e]; exact hg, r⟩
  · exact K b cap hv a w ⟨s.1, s.2.1, fp, ⟨f, g, e, hr, hg⟩, r⟩
/-- And shut again. -/
theorem J.shutRow {c l H H' G g cap E sz n C} (ho : Out (rowAt g cap E sz n C) H H') (K : J c l (row (.slice (some ⟨g, 0, none⟩) n cap) E sz n C :: H') G) : J c l H G := J.mk fun a w s =>
  K a w ⟨s.1, s.2.1, (s.2.2.perm ho.perm).conv fun _ _ => rowAt.row⟩

theorem Sat.rowAt {w0 w own H g cap E sz n C} (h : Sat w0 own H w) (hm : Eng.rowAt g cap E sz n C ∈ H) : ∃ cur : Array Value, w.heap[g]? = some (.cells cur E (0, 0)) ∧ cur.size = cap * sz ∧ cur.toList.take (n * sz) = C ∧ C.length = n * sz ∧ n ≤ cap := by
  obtain ⟨fp, ⟨rfl, h1, h2, h3, cur, h4, h5, h6⟩, _, _⟩ := h.mem hm
  exact ⟨cur, h4, h5, h6, h1, h2⟩
theorem Sat.rowCell {w0 w own H g cap E sz n C} (h : Sat w0 own H w) (hm : Eng.rowAt g cap E sz n C ∈ H) {j : Nat} {v : Value} (hj : C[j]? = some v) : w.cell? ⟨g, j, none⟩ = some v := by
  obtain ⟨cur, h1, h2, h3, h4, h5⟩ := h.rowAt hm
  rw [← h3, List.getElem?_take] at hj
  split at hj
  · simp only [World.cell?, h1]
    simpa using hj
  · cases hj

section
variable {P : Program} {c : Cx} {l : TL} {H : List Asrt} {Q : Exit → Act → World → Prop} {X : Act → World → Prop}
variable {ty : TypeId} {pos : String} {af : Array Edge} {d : Nat} {v : Value} {dst : Option Tmp} {mm : Nat}

theorem Qr.row1 {T n z} [i : Ty P T false n z] {x : Operand} {g off cap E sz k : Nat} {C : List Value} (hx : ev l x = some (.pointer (some ⟨g, off, none⟩))) (hm : In (rowAt g cap E sz k C) H) (hv : C[off]? = some v) : Qr P c l H (.load T x) v := fun a w _ _ _ _ s => by
  have hc := s.2.2.rowCell hm.mem hv
  simp [execOp, s.1.ev hx, run_load1 (P := P) (T := T) hc]
theorem Qr.rowN {T n z} [i : Ty P T true n z] {x : Operand} {g off cap E sz k : Nat} {C cs : List Value} (hx : ev l x = some (.pointer (some ⟨g, off, none⟩))) (hm : In (rowAt g cap E sz k C) H) (hcs : (C.drop off).take n = cs) (hn : cs.length = n) : Qr P c l H (.load T x) (.agg cs.toArray) := fun a w _ _ _ _ s => by
  have hl := run_loadN (P := P) (w := w) (T := T) (ad := ⟨g, off, none⟩) hn (fun j v hj => by
    rw [addr_add]
    refine s.2.2.rowCell hm.mem ?_
    rw [← hcs, List.getElem?_take] at hj
    split at hj
    · rwa [List.getElem?_drop] at hj
    · cases hj)
  simp [execOp, s.1.ev hx, hl]

/-! ### Builtins -/
theorem run_builtin {b : Builtin} {xs : List Operand} {ts : Array TypeId} {vs : List Value} {a : Act} {n : Nat} (t : TRel n l a) (hx : evs l xs = some vs) (w : World) :
    ∃ cs : Array Bool, (execOp a.eval ⟨dst, .call ⟨.builtin b, xs.toArray, ts⟩, ty, pos, af, none⟩).run P w = (builtin b ts ty cs vs.toArray).run P w := by
  have h := t.evs hx
  refine ⟨(xs.toArray.map fun | .const _ => true | _ => false), ?_⟩
  simp only [execOp, resolve, invoke, Sem.run_bind, Sem.run_pure, Result.andThen_ok, List.map_toArray, h]
  congr 2
theorem Qv.lenS {T E bytes} [i : Sl P T E bytes] {x : Operand} {a : Option Addr} {n cap : Nat} (hx : ev l x = some (.slice a n cap)) : Qv P mm l (.call ⟨.builtin .len, #[x], #[T]⟩) (.int .i64 n) := fun a' w dst ty pos af s => by
  obtain ⟨cs, h⟩ := run_builtin (P := P) (b := .len) (xs := [x]) (ts := #[T]) (vs := [.slice a n cap]) (dst := dst) (ty := ty) (pos := pos) (af := af) s (by simp [evs, hx]) w
  rw [show ([x] : List Operand).toArray = #[x] from rfl] at h
  rw [h]
  simp [builtin, Builtin.len_, run_und i.und, goInt]
theorem Qv.lenStr {T} [i : StrT P T] {x : Operand} {s : ByteArray} (hx : ev l x = some (.string s)) : Qv P mm l (.call ⟨.builtin .len, #[x], #[T]⟩) (.int .i64 s.size) := fun a' w dst ty pos af r => by
  obtain ⟨cs, h⟩ := run_builtin (P := P) (b := .len) (xs := [x]) (ts := #[T]) (vs := [.string s]) (dst := dst) (ty := ty) (pos := pos) (af := af) r (by simp [evs, hx]) w
  rw [show ([x] : List Operand).toArray = #[x] from rfl] at h
  rw [h]
  simp [builtin, Builtin.len_, run_und i.und, goInt]
theorem Qv.capS {T E bytes} [i : Sl P T E bytes] {x : Operand} {a : Option Addr} {n cap : Nat} (hx : ev l x = some (.slice a n cap)) : Qv P mm l (.call ⟨.builtin .cap, #[x], #[T]⟩) (.int .i64 cap) := fun a' w dst ty pos af s => by
  obtain ⟨cs, h⟩ := run_builtin (P := P) (b := .cap) (xs := [x]) (ts := #[T]) (vs := [.slice a n cap]) (dst := dst) (ty := ty) (pos := pos) (af := af) s (by simp [evs, hx]) w
  rw [show ([x] : List Operand).toArray = #[x] from rfl] at h
  rw [h]
  simp [builtin, Builtin.cap_, run_und i.und, goInt]
/-- The length of a row, nil or not. -/
theorem Qr.lenRow {T E bytes} [i : Sl P T E bytes] {x : Operand} {E' sz n : Nat} {C : List Value} (hx : ev l x = some v) (hm : In (row v E' sz n C) H) : Qr P c l H (.call ⟨.builtin .len, #[x], #[T]⟩) (.int .i64 n) := fun a' w dst ty pos af s => by
  obtain ⟨fp, hh, _, _⟩ := s.2.2.mem hm.mem
  rcases hh with ⟨rfl, rfl, _⟩ | ⟨g, cap, rfl, _⟩
  · exact Qv.lenS (bytes := bytes) hx a' w dst ty pos af s.1
  · exact Qv.lenS (bytes := bytes) hx a' w dst ty pos af s.1
def imax (x y : Int) : Int := if y > x then y else x
def imin (x y : Int) : Int := if y < x then y else x
theorem Qv.max {x y : Operand} {k : IntKind} {e f : Int} {T T' : Nat} (hx : ev l x = some (.int k e)) (hy : ev l y = some (.int k f)) : Qv P mm l (.call ⟨.builtin .max, #[x, y], #[T, T']⟩) (.int k (imax e f)) := fun a' w dst ty pos af s => by
  obtain ⟨cs, h⟩ := run_builtin (P := P) (b := .max) (xs := [x, y]) (ts := #[T, T']) (vs := [.int k e, .int k f]) (dst := dst) (ty := ty) (pos := pos) (af := af) s (by simp [evs, hx, hy]) w
  rw [show ([x, y] : List Operand).toArray = #[x, y] from rfl] at h
  rw [h]
  simp [builtin, Builtin.max_, Builtin.max2, imax]
theorem Qv.min {x y : Operand} {k : IntKind} {e f : Int} {T T' : Nat} (hx : ev l x = some (.int k e)) (hy : ev l y = some (.int k f)) : Qv P mm l (.call ⟨.builtin .min, #[x, y], #[T, T']⟩) (.int k (imin e f)) := fun a' w dst ty pos af s => by
  obtain ⟨cs, h⟩ := run_builtin (P := P) (b := .min) (xs := [x, y]) (ts := #[T, T']) (vs := [.int k e, .int k f]) (dst := dst) (ty := ty) (pos := pos) (af := af) s (by simp [evs, hx, hy]) w
  rw [show ([x, y] : List Operand).toArray = #[x, y] from rfl] at h
  rw [h]
  simp [builtin, Builtin.min_, Builtin.min2, imin]

/-! ### A slice that is made of its parts -/
def rep (k : Nat) (z : List Value) : List Value := (List.replicate k z).flatten
theorem zeros_eq {z : List Value} {len n : Nat} (hz : z.length = n) : ((Array.range (len * n)).map fun k => z.toArray[k % z.toArray.size]!) = (rep len z).toArray := by
  subst hz
  apply Array.ext'
  apply List.ext_getElem?
  intro k
  simp only [Array.toList_map, Array.toList_range, List.getElem?_map, List.size_toArray, List.toList_toArray]
  by_cases hk : k < len * z.length
  · have hz0 : 0 < z.length := by
      rcases Nat.eq_zero_or_pos z.length with h | h
      · rw [h] at hk; omega
      · exact h
    have hmod : k % z.length < z.length := Nat.mod_lt _ hz0
    rw [List.getElem?_range hk]
    simp only [Option.map_some]
    have : ∀ (len k : Nat), k < len * z.length → (rep len z)[k]? = z[k % z.length]? := by
      intro len
      induction len with
      | zero => intro k hk; omega
      | succ len ih =>
        intro k hk
        have e : rep (len + 1) z = z ++ rep len z := by simp [rep, List.replicate_succ]
        rw [e]
        by_cases h : k < z.length
        · rw [List.getElem?_append_left h, Nat.mod_eq_of_lt h]
        · rw [List.getElem?_append_right (by omega), ih (k - z.length) (by rw [Nat.succ_mul] at hk; omega)]
          congr 1
          rw [Nat.mod_eq_sub_mod (by omega : k ≥ z.length)]
    rw [this len k hk, List.getElem?_eq_getElem hmod]
    simp [hmod]
  · rw [List.getElem?_eq_none (by simp; omega)]
    symm
    simp only [Option.map_none]
    apply List.getElem?_eq_none
    simp [rep]
    omega
theorem J.buildSlice {T E bytes agg n z} [i : Sl P T E bytes] [t : Ty P E agg n z] {len : Nat} {xs : List (Nat × Operand)} {vs : List (Nat × Value)} {cs : List Value} (hd : Nat.blt d c.n = true) (hx : evp l xs = some vs) (hz : z.length = n) (hb : Nat.ble (len * n) 1000 = true) (hpos : (len * n == 0) = false) (hf : bfill (fun i => some (i * n, n)) (rep len z) vs = some cs)
    (K : ∀ b, J c ((d, .slice (some ⟨b, 0, none⟩) len len) :: l) (blk b cs E :: H) X) : J c l H (OW P Q ⟨some d, .buildSlice T len xs.toArray, ty, pos, af, none⟩ X) :=
  J.opv fun a w s => by
    obtain ⟨zv, h1, h2⟩ := run_zeroV (P := P) (w := w) (T := E)
    have h3 := s.1.evp hx
    have h4 := fill_of hf
    rw [← h3] at h4
    have hb' : len * n ≤ 1000 := Nat.le_of_ble_eq_true hb
    refine ⟨_, w.alloc (.cells cs.toArray E), ?_, K w.heap.size _ _ ⟨s.1.put hd, s.2.1, s.2.2.new _ _ fun h' hh => ⟨rfl, hh⟩⟩⟩
    have e : (List.map (fun x : Nat × Operand => match x with | (i, x) => (i, a.eval x)) xs) = xs.map (fun x => (x.1, a.eval x.2)) := rfl
    have h5 : Instr.fill (fun i => some (i * n, n)) (rep len z).toArray (List.map (fun x : Nat × Operand => match x with | (i, x) => (i, a.eval x)) xs) = some cs.toArray := h4
    have hr := zeros_eq (len := len) hz
    rw [← hr] at h5
    have h0 : ¬ len * n = 0 := by simpa using hpos
    simp only [execOp, Instr.buildSlice, Sem.run_bind, run_und i.und, Result.andThen_ok, run_size (P := P) (w := w) (T := E)]
    rw [if_neg (by omega), if_neg h0]
    simp only [Sem.run_bind, Sem.run_pure, Result.andThen_ok, h1, h2, List.map_toArray]
    simp only [h5]
    rfl
theorem J.buildSlice0 {T E bytes agg n z} [i : Sl P T E bytes] [t : Ty P E agg n z] (hd : Nat.blt d c.n = true)
    (K : ∀ b, J c ((d, .slice (some ⟨b, 0, none⟩) 0 0) :: l) (blk b [] E :: H) X) : J c l H (OW P Q ⟨some d, .buildSlice T 0 #[], ty, pos, af, none⟩ X) :=
  J.opv fun a w s => by
    refine ⟨.slice (some ⟨w.heap.size, 0, none⟩) 0 0, w.alloc (.cells #[] E), ?_, K w.heap.size _ _ ⟨s.1.put hd, s.2.1, s.2.2.new _ _ fun h' hh => ⟨rfl, hh⟩⟩⟩
    simp only [execOp, Instr.buildSlice, Sem.run_bind, run_und i.und, Result.andThen_ok, run_size (P := P) (w := w) (T := E), Nat.zero_mul]
    rw [if_neg (by omega), if_pos trivial]
    have e0 : ∀ f : Nat → Value, Array.map f (Array.range 0) = #[] := by
      intro f
      apply Array.ext'
      simp
    simp only [Sem.run_bind, Sem.run_pure, Result.andThen_ok, e0]
    simp [Instr.fill, newRow]

/-! ### append -/
theorem J.appendCore {T E bytes agg sz z} [i : Sl P T E bytes] [t : Ty P E agg sz z] {s x : Operand} {n m cx : Nat} {C news : List Value} {H1 : List Asrt} {ad : Addr} (hd : Nat.blt d c.n = true) (hs : ev l s = some v) (ho : Out (row v E sz n C) H H1) (hx : ev l x = some (.slice (some ad) m cx))
    (hnews : ∀ a w, St c l H a w → ∀ j u, news[j]? = some u → w.cell? (ad.add j) = some u) (hl : news.length = m * sz) (h1 : news.all (·.oneCell') = true) (hz : z.length = sz) (hsz : (sz == 0) = false) (hm0 : (m == 0) = false) (h63 : n + m ≤ maxLen) (hby : (n + m) * bytes ≤ 140737488355328)
    (K : ∀ v', J c ((d, v') :: l) (row v' E sz (n + m) (C ++ news) :: H1) X) : J c l H (OW P Q ⟨some d, .call ⟨.builtin .append, #[s, x], #[T, T]⟩, ty, pos, af, none⟩ X) :=
  J.opv fun a w st => by
    have hnw := hnews a w st
    obtain ⟨cbs, hrun⟩ := run_builtin (P := P) (b := .append) (xs := [s, x]) (ts := #[T, T]) (vs := [v, .slice (some ad) m cx]) (dst := some d) (ty := ty) (pos := pos) (af := af) st.1 (by simp [evs, hs, hx]) w
    rw [show ([s, x] : List Operand).toArray = #[s, x] from rfl] at hrun
    have h1' : ∀ u ∈ news, u.oneCell' = true := by simpa using h1
    have hsz0 : 0 < sz := by
      rcases Nat.eq_zero_or_pos sz with h | h
      · subst h; cases hsz
      · exact h
    have hm0' : 0 < m := by
      rcases Nat.eq_zero_or_pos m with h | h
      · subst h; cases hm0
      · exact h
    -- the element type's row of the table
    have hsi := t.siz
    have hzi := t.zer
    have hbi := i.byt
    obtain ⟨inf, hinf⟩ : ∃ inf, P.info? E = some inf := by
      cases hu : P.info? E with
      | none => rw [hu] at hsi; cases hsi
      | some x => exact ⟨x, rfl⟩
    rw [hinf] at hsi hzi hbi
    simp only [Option.map_some, Option.some.injEq] at hsi hzi hbi
    obtain ⟨zv, hzv⟩ : ∃ zv, inf.zero = some zv := by
      cases hu : inf.zero with
      | none => rw [hu] at hzi; cases hzi
      | some x => exact ⟨x, rfl⟩
    rw [hzv] at hzi
    simp only [Option.map_some, Option.some.injEq] at hzi
    have hzs : zv.cells.size = sz := by rw [hzi]; simpa using hz
    have hsmall : ((n + m : Nat) : Int) ≤ 9223372036854775807 := by simp only [maxLen] at h63; omega
    obtain ⟨fp, ⟨f, g, rfl, ha, hg⟩, hn, hi, hf⟩ := st.2.2.perm ho.perm
    -- a new row
    have fresh : ∀ (old : Nat) (C0 : List Value), old < n + m → C0.length = n * sz → Sat c.w0 c.own (row (.slice (some ⟨w.heap.size, 0, none⟩) (n + m) (grownCap w (n + m) old E)) E sz (n + m) (C0 ++ news) :: H1) (w.drew.alloc (.cells (C0.toArray ++ news.toArray ++ Builtin.zeroCells zv.cells (grownCap w (n + m) old E - (n + m))) E)) := by
      intro old C0 hold hC0
      have hge := grownCap_ge w (n + m) old E
      have hcm := grownCap_le_maxLen w (n + m) old E h63
      have hS : Sat c.w0 c.own H1 w.drew := Sat.drew ⟨g, hg, (List.nodup_append.1 hn).2.1, fun i hi' => hi i (List.mem_append_right _ hi'), hf⟩
      refine hS.new _ _ fun h' hh => ?_
      refine rowAt.row ⟨rfl, by rw [List.length_append, hC0, hl, Nat.add_mul], hge, hcm, _, hh, ?_, ?_⟩
      · simp only [Array.size_append, List.size_toArray, size_zeroCells, hzs, hC0, hl, ← Nat.add_mul]
        congr 1
        omega
      · simp only [Array.toList_append, List.append_assoc]
        rw [← List.append_assoc]
        have : (n + m) * sz = (C0 ++ news).length := by rw [List.length_append, hC0, hl, Nat.add_mul]
        rw [this]
        exact List.take_left
    rcases ha with ⟨rfl, rfl, rfl, rfl⟩ | ⟨b, cap, rfl, rfl, hCl, hnc, hcm, cur, hb, hcs, htake⟩
    · -- nil
      have hr := run_append_nil (P := P) w T ty E inf zv i.und hinf hzv ad m cx news (by rw [hl, hsi]) hnw (by omega) (by omega) (by rw [hbi]; have hb' := hby; simp only [Nat.zero_add] at hb'; omega)
      have hS := fresh 0 [] (by omega) (by simp)
      simp only [Nat.zero_add, List.nil_append, Array.empty_append] at hS ⊢
      refine ⟨.slice (some ⟨w.heap.size, 0, none⟩) m (grownCap w m 0 E), _, ?_, K _ _ _ ⟨st.1.put hd, st.2.1, by simpa using hS⟩⟩
      · rw [hrun]
        simp only [builtin, Sem.run_bind]
        rw [show ([Value.slice none 0 0, Value.slice (some ad) m cx] : List Value).toArray = #[.slice none 0 0, .slice (some ad) m cx] from rfl, hr]
        rfl
    · by_cases hroom : n + m ≤ cap
      · have hS : Sat c.w0 c.own (Eng.rowAt b cap E sz n C :: H1) w := ⟨[b] ++ g, ⟨[b], g, rfl, ⟨rfl, hCl, hnc, hcm, cur, hb, hcs, htake⟩, hg⟩, hn, hi, hf⟩
        have hfit : n * inf.size + news.length ≤ cur.size := by rw [hl, hcs, hsi, ← Nat.add_mul]; exact Nat.mul_le_mul_right _ hroom
        have hr := run_append_room (P := P) w T ty E inf i.und hinf b n cap cur hb ad m cx news (by rw [hl, hsi]) hnw h1' hroom hfit
        have hS' : Sat c.w0 c.own (Eng.row (.slice (some ⟨b, 0, none⟩) (n + m) cap) E sz (n + m) (C ++ news) :: H1) (w.setRow b (cur.toList.take (n * inf.size) ++ news ++ cur.toList.drop (n * inf.size + news.length)).toArray) := by
          refine hS.turn rfl rfl rfl (by simp [World.setRow]) fun fp hfp => ?_
          obtain ⟨rfl, _⟩ := hfp
          refine ⟨rowAt.row ⟨rfl, by rw [List.length_append, hCl, hl, Nat.add_mul], hroom, hcm, _, setRow_heap w b cur _ E _ hb, ?_, ?_⟩, fun k hk => ?_⟩
          · rw [hsi] at hfit ⊢
            simp only [List.size_toArray, List.length_append, List.length_take, List.length_drop, Array.length_toList]
            omega
          · rw [hsi, htake]
            have : (n + m) * sz = (C ++ news).length := by rw [List.length_append, hCl, hl, Nat.add_mul]
            rw [this]
            exact List.take_left
          · exact setRow_other w b k _ (fun e => hk (by simp [e]))
        refine ⟨_, _, ?_, K _ _ _ ⟨st.1.put hd, st.2.1, hS'⟩⟩
        rw [hrun]
        simp only [builtin, Sem.run_bind]
        rw [show ([Value.slice (some ⟨b, 0, none⟩) n cap, Value.slice (some ad) m cx] : List Value).toArray = #[.slice (some ⟨b, 0, none⟩) n cap, .slice (some ad) m cx] from rfl, hr]
        rfl
      · have hcells : ∀ j u, C[j]? = some u → w.cell? ((⟨b, 0, none⟩ : Addr).add j) = some u := by
          intro j u hj
          rw [addr_add, Nat.zero_add]
          rw [← htake, List.getElem?_take] at hj
          have hb' : w.heap[b]? = some (.cells cur E (0, 0)) := hb
          split at hj
          · simp only [World.cell?, hb']
            simpa using hj
          · cases hj
        have hr := run_append_grow (P := P) w T ty E inf zv i.und hinf hzv ⟨b, 0, none⟩ n cap C (by rw [hCl, hsi]) hcells ad m cx news (by rw [hl, hsi]) hnw (by omega) hsmall (growslice_fits (by omega) (by rw [hbi]; exact hby))
        refine ⟨_, _, ?_, K _ _ _ ⟨st.1.put hd, st.2.1, fresh cap C (by omega) hCl⟩⟩
        rw [hrun]
        simp only [builtin, Sem.run_bind]
        rw [show ([Value.slice (some ⟨b, 0, none⟩) n cap, Value.slice (some ad) m cx] : List Value).toArray = #[.slice (some ⟨b, 0, none⟩) n cap, .slice (some ad) m cx] from rfl, hr]
        rfl
/-- append of what a block holds. -/
theorem J.append {T E bytes agg sz z} [i : Sl P T E bytes] [t : Ty P E agg sz z] {s x : Operand} {n m cx b o E' : Nat} {C D news : List Value} {H1 : List Asrt} (hd : Nat.blt d c.n = true) (hs : ev l s = some v) (ho : Out (row v E sz n C) H H1) (hx : ev l x = some (.slice (some ⟨b, o, none⟩) m cx)) (hm : In (blk b D E') H) (hnews : (D.drop o).take (m * sz) = news)
    (hl : news.length = m * sz) (h1 : news.all (·.oneCell') = true) (hz : z.length = sz) (hsz : (sz == 0) = false) (hm0 : (m == 0) = false) (h63 : n + m ≤ maxLen) (hby : (n + m) * bytes ≤ 140737488355328)
    (K : ∀ v', J c ((d, v') :: l) (row v' E sz (n + m) (C ++ news) :: H1) X) : J c l H (OW P Q ⟨some d, .call ⟨.builtin .append, #[s, x], #[T, T]⟩, ty, pos, af, none⟩ X) :=
  J.appendCore (bytes := bytes) hd hs ho hx (fun a w st j u hj => by
    rw [addr_add]
    refine st.2.2.cell hm.mem ?_
    rw [← hnews, List.getElem?_take] at hj
    split at hj
    · rwa [List.getElem?_drop] at hj
    · cases hj) hl h1 hz hsz hm0 h63 hby K
theorem J.appendNil {T E bytes agg sz z} [i : Sl P T E bytes] [t : Ty P E agg sz z] {s x : Operand} {m cx b o E' : Nat} {D news : List Value} (hd : Nat.blt d c.n = true) (hs : ev l s = some (.slice none 0 0)) (hx : ev l x = some (.slice (some ⟨b, o, none⟩) m cx)) (hm : In (blk b D E') H) (hnews : (D.drop o).take (m * sz) = news)
    (hl : news.length = m * sz) (h1 : news.all (·.oneCell') = true) (hz : z.length = sz) (hsz : (sz == 0) = false) (hm0 : (m == 0) = false) (h63 : 0 + m ≤ maxLen) (hby : (0 + m) * bytes ≤ 140737488355328)
    (K : ∀ v', J c ((d, v') :: l) (row v' E sz (0 + m) news :: H) X) : J c l H (OW P Q ⟨some d, .call ⟨.builtin .append, #[s, x], #[T, T]⟩, ty, pos, af, none⟩ X) :=
  J.nilRow E sz (J.append (bytes := bytes) (C := []) hd hs .here hx (.there hm) hnews hl h1 hz hsz hm0 h63 hby K)
end
end Go.Proofs.Ytnbckkpflmpnlaa.Eng
