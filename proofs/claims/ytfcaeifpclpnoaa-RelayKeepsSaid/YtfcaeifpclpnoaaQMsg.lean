/-
  Asks, bids, messages: their cells; when two are one. No conditions.
-/
import Derived.Test.YtfcaeifpclpnoaaQDeal
namespace Go.Proofs.Ytfcaeifpclpnoaa.Msg
open Go Go.RowKit Eng
set_option linter.unusedVariables false
set_option maxRecDepth 100000
set_option linter.unusedSimpArgs false
open Wide Tx
set_option maxHeartbeats 1000000
/-- Whole numbers of 64 bits. -/
def I64 (x : Int) : Prop := (Lit.int .i64 x).wf = true
theorem i64_of {x : Int} (h0 : -9223372036854775808 ≤ x) (h1 : x ≤ 9223372036854775807) : I64 x := by
  simp [I64, Lit.wf, IntKind.min, IntKind.max, IntKind.signed, IntKind.bits]
  omega
theorem reads_at {W : World} : ∀ {L : List Sh} {cs : List Value} {k : Nat} {s : Sh}, Sh.ReadsL W L cs → L[k]? = some s → ∃ v, cs[k]? = some v ∧ Sh.Reads W s v
  | [], cs, k, s, _, hk => by simp at hk
  | s0 :: L, cs, k, s, h, hk => by
    simp only [Sh.ReadsL] at h
    obtain ⟨v, cs', rfl, h1, h2⟩ := h
    cases k with
    | zero =>
      simp only [List.getElem?_cons_zero, Option.some.injEq] at hk
      subst hk
      exact ⟨v, rfl, h1⟩
    | succ k =>
      rw [List.getElem?_cons_succ] at hk ⊢
      exact reads_at h2 hk
theorem reads_i {W : World} {L : List Sh} {cs : List Value} (h : Sh.ReadsL W (.int .i64 :: L) cs) : ∃ x ds, cs = .int .i64 x :: ds ∧ I64 x ∧ Sh.ReadsL W L ds := by
  simp only [Sh.ReadsL, Sh.Reads] at h
  obtain ⟨v, ds, rfl, ⟨x, rfl, h1⟩, h2⟩ := h
  exact ⟨x, ds, rfl, h1, h2⟩
theorem reads_s {W : World} {L : List Sh} {cs : List Value} (h : Sh.ReadsL W (.str :: L) cs) : ∃ (x : List UInt8) (ds : List Value), cs = str x :: ds ∧ x.length ≤ maxLen ∧ Sh.ReadsL W L ds := by
  simp only [Sh.ReadsL, Sh.Reads] at h
  obtain ⟨v, ds, rfl, ⟨x, rfl, h1⟩, h2⟩ := h
  exact ⟨x.data.toList, ds, rfl, by simpa using h1, h2⟩
theorem reads_w {W : World} {L : List Sh} {cs : List Value} (h : Sh.ReadsL W (wsh ++ L) cs) : ∃ x ds, cs = wv x ++ ds ∧ Wd x ∧ Sh.ReadsL W L ds := by
  obtain ⟨h1, h2⟩ := ReadsL_split h
  obtain ⟨x, hx, e⟩ := reads_wv h1
  exact ⟨x, cs.drop wsh.length, by rw [← e, List.take_append_drop], hx, h2⟩
/-- An ask. -/
structure Ak where
  us : Int
  se : Int
  re : Int
  to : Int
  am : Int
  id : List UInt8
def Ak.cells (a : Ak) : List Value := [.int .i64 a.us, .int .i64 a.se, .int .i64 a.re, .int .i64 a.to] ++ wv a.am ++ [str a.id]
structure AkIn (a : Ak) : Prop where
  us : I64 a.us
  se : I64 a.se
  re : I64 a.re
  to : I64 a.to
  am : Wd a.am
  id : a.id.length ≤ maxLen
/-- A transfer. -/
structure Iv where
  us : Int
  rt : List UInt8
  ro : Int
  se : Int
  re : Int
  to : Int
  id : List UInt8
def Iv.cells (i : Iv) : List Value := invc i.us i.rt i.ro i.se i.re i.to i.id
structure IvIn (a : Iv) : Prop where
  us : I64 a.us
  rt : a.rt.length ≤ maxLen
  ro : I64 a.ro
  se : I64 a.se
  re : I64 a.re
  to : I64 a.to
  id : a.id.length ≤ maxLen
/-- A bid. -/
structure Bd where
  ro : Int
  ask : Ak
  am : Int
  un : Int
  sg : List UInt8
def Bd.cells (b : Bd) : List Value := .int .i64 b.ro :: (b.ask.cells ++ (wv b.am ++ [.int .i64 b.un, str b.sg]))
structure BdIn (b : Bd) : Prop where
  ro : I64 b.ro
  ask : AkIn b.ask
  am : Wd b.am
  un : I64 b.un
  sg : b.sg.length ≤ maxLen
/-- A message. -/
structure Mg where
  ki : Int
  ask : Ak
  bid : Bd
  inv : Iv
  va : Int
  ex : Int
  fee : Int
  sg : List UInt8
def Mg.cells (m : Mg) : List Value := .int .i64 m.ki :: (m.ask.cells ++ (m.bid.cells ++ (m.inv.cells ++ (wv m.va ++ (.int .i64 m.ex :: (wv m.fee ++ [str m.sg]))))))
structure MgIn (m : Mg) : Prop where
  ki : I64 m.ki
  ask : AkIn m.ask
  bid : BdIn m.bid
  inv : IvIn m.inv
  va : Wd m.va
  ex : I64 m.ex
  fee : Wd m.fee
  sg : m.sg.length ≤ maxLen
def ak0 : Ak := ⟨0, 0, 0, 0, 0, []⟩
def bd0 : Bd := ⟨0, ak0, 0, 0, []⟩
def iv0 : Iv := ⟨0, [], 0, 0, 0, 0, []⟩
def mg0 : Mg := ⟨0, ak0, bd0, iv0, 0, 0, 0, []⟩
theorem i64_0 : I64 0 := i64_of (by decide) (by decide)
theorem wd_0 : Wd 0 := by unfold Wd; omega
theorem ak0_in : AkIn ak0 := ⟨i64_0, i64_0, i64_0, i64_0, wd_0, Nat.zero_le _⟩
theorem bd0_in : BdIn bd0 := ⟨i64_0, ak0_in, wd_0, i64_0, Nat.zero_le _⟩
theorem iv0_in : IvIn iv0 := ⟨i64_0, Nat.zero_le _, i64_0, i64_0, i64_0, i64_0, Nat.zero_le _⟩
theorem mg0_in : MgIn mg0 := ⟨i64_0, ak0_in, bd0_in, iv0_in, wd_0, i64_0, wd_0, Nat.zero_le _⟩
/-- Shapes. -/
def aksh : List Sh := .int .i64 :: .int .i64 :: .int .i64 :: .int .i64 :: (wsh ++ [.str])
def bdsh : List Sh := .int .i64 :: (aksh ++ (wsh ++ [.int .i64, .str]))
def ivsh : List Sh := [.int .i64, .str, .int .i64, .int .i64, .int .i64, .int .i64, .str]
def mgsh : List Sh := .int .i64 :: (aksh ++ (bdsh ++ (ivsh ++ (wsh ++ (.int .i64 :: (wsh ++ [.str]))))))
theorem rd_s {W : World} {l : List UInt8} (hl : l.length ≤ maxLen) : Sh.Reads W .str (str l) := ⟨_, rfl, by show l.toArray.size ≤ maxLen; simpa using hl⟩
theorem rd_i {W : World} {x : Int} (hx : I64 x) : Sh.Reads W (.int .i64) (.int .i64 x) := ⟨x, rfl, hx⟩
theorem rd_app {W : World} {L M : List Sh} {cs ds : List Value} (h1 : Sh.ReadsL W L cs) (h2 : Sh.ReadsL W M ds) : Sh.ReadsL W (L ++ M) (cs ++ ds) := Sh.ReadsL.append (by rw [← h1.length, List.take_left]; exact h1) (by rw [← h1.length, List.drop_left]; exact h2)
theorem rd_nil {W : World} : Sh.ReadsL W [] [] := rfl
theorem rd_cons {W : World} {s : Sh} {L : List Sh} {v : Value} {cs : List Value} (h1 : Sh.Reads W s v) (h2 : Sh.ReadsL W L cs) : Sh.ReadsL W (s :: L) (v :: cs) := ⟨_, _, rfl, h1, h2⟩
theorem ak_reads {W : World} {a : Ak} (h : AkIn a) : Sh.ReadsL W aksh a.cells := rd_cons (rd_i h.us) (rd_cons (rd_i h.se) (rd_cons (rd_i h.re) (rd_cons (rd_i h.to) (rd_app (wv_reads _) (rd_cons (rd_s h.id) rd_nil)))))
theorem iv_reads {W : World} {a : Iv} (h : IvIn a) : Sh.ReadsL W ivsh a.cells := rd_cons (rd_i h.us) (rd_cons (rd_s h.rt) (rd_cons (rd_i h.ro) (rd_cons (rd_i h.se) (rd_cons (rd_i h.re) (rd_cons (rd_i h.to) (rd_cons (rd_s h.id) rd_nil))))))
theorem bd_reads {W : World} {b : Bd} (h : BdIn b) : Sh.ReadsL W bdsh b.cells := rd_cons (rd_i h.ro) (rd_app (ak_reads h.ask) (rd_app (wv_reads _) (rd_cons (rd_i h.un) (rd_cons (rd_s h.sg) rd_nil))))
theorem mg_reads {W : World} {m : Mg} (h : MgIn m) : Sh.ReadsL W mgsh m.cells := rd_cons (rd_i h.ki) (rd_app (ak_reads h.ask) (rd_app (bd_reads h.bid) (rd_app (iv_reads h.inv) (rd_app (wv_reads _) (rd_cons (rd_i h.ex) (rd_app (wv_reads _) (rd_cons (rd_s h.sg) rd_nil)))))))
theorem reads_ak {W : World} {L : List Sh} {cs : List Value} (h : Sh.ReadsL W (aksh ++ L) cs) : ∃ a ds, cs = Ak.cells a ++ ds ∧ AkIn a ∧ Sh.ReadsL W L ds := by
  unfold aksh at h
  simp only [List.cons_append, List.append_assoc, List.nil_append] at h
  obtain ⟨us, c1, rfl, h1, h⟩ := reads_i h
  obtain ⟨se, c2, rfl, h2, h⟩ := reads_i h
  obtain ⟨re, c3, rfl, h3, h⟩ := reads_i h
  obtain ⟨to, c4, rfl, h4, h⟩ := reads_i h
  obtain ⟨am, c5, rfl, h5, h⟩ := reads_w h
  obtain ⟨id, c6, rfl, h6, h⟩ := reads_s h
  exact ⟨⟨us, se, re, to, am, id⟩, c6, by simp [Ak.cells], ⟨h1, h2, h3, h4, h5, h6⟩, h⟩
theorem reads_iv {W : World} {L : List Sh} {cs : List Value} (h : Sh.ReadsL W (ivsh ++ L) cs) : ∃ a ds, cs = Iv.cells a ++ ds ∧ IvIn a ∧ Sh.ReadsL W L ds := by
  unfold ivsh at h
  simp only [List.cons_append, List.append_assoc, List.nil_append] at h
  obtain ⟨us, c1, rfl, h1, h⟩ := reads_i h
  obtain ⟨rt, c2, rfl, h2, h⟩ := reads_s h
  obtain ⟨ro, c3, rfl, h3, h⟩ := reads_i h
  obtain ⟨se, c4, rfl, h4, h⟩ := reads_i h
  obtain ⟨re, c5, rfl, h5, h⟩ := reads_i h
  obtain ⟨to, c6, rfl, h6, h⟩ := reads_i h
  obtain ⟨id, c7, rfl, h7, h⟩ := reads_s h
  exact ⟨⟨us, rt, ro, se, re, to, id⟩, c7, by simp [Iv.cells, invc], ⟨h1, h2, h3, h4, h5, h6, h7⟩, h⟩
theorem reads_bd {W : World} {L : List Sh} {cs : List Value} (h : Sh.ReadsL W (bdsh ++ L) cs) : ∃ a ds, cs = Bd.cells a ++ ds ∧ BdIn a ∧ Sh.ReadsL W L ds := by
  unfold bdsh at h
  simp only [List.cons_append, List.append_assoc, List.nil_append] at h
  obtain ⟨ro, c1, rfl, h1, h⟩ := reads_i h
  obtain ⟨ask, c2, rfl, h2, h⟩ := reads_ak h
  obtain ⟨am, c3, rfl, h3, h⟩ := reads_w h
  obtain ⟨un, c4, rfl, h4, h⟩ := reads_i h
  obtain ⟨sg, c5, rfl, h5, h⟩ := reads_s h
  exact ⟨⟨ro, ask, am, un, sg⟩, c5, by simp [Bd.cells], ⟨h1, h2, h3, h4, h5⟩, h⟩
theorem reads_mg {W : World} {cs : List Value} (h : Sh.ReadsL W mgsh cs) : ∃ m, cs = Mg.cells m ∧ MgIn m := by
  unfold mgsh at h
  obtain ⟨ki, c1, rfl, h1, h⟩ := reads_i h
  obtain ⟨ask, c2, rfl, h2, h⟩ := reads_ak h
  obtain ⟨bid, c3, rfl, h3, h⟩ := reads_bd h
  obtain ⟨inv, c4, rfl, h4, h⟩ := reads_iv h
  obtain ⟨va, c5, rfl, h5, h⟩ := reads_w h
  obtain ⟨ex, c6, rfl, h6, h⟩ := reads_i h
  obtain ⟨fee, c7, rfl, h7, h⟩ := reads_w h
  obtain ⟨sg, c8, rfl, h8, h⟩ := reads_s h
  simp only [Sh.ReadsL] at h
  subst h
  exact ⟨⟨ki, ask, bid, inv, va, ex, fee, sg⟩, rfl, ⟨h1, h2, h3, h4, h5, h6, h7, h8⟩⟩
/-- Cells are one just if what they are of is. -/
theorem str_inj {a b : List UInt8} (h : str a = str b) : a = b := by
  simp only [str, Value.string.injEq, ByteArray.mk.injEq] at h
  have := congrArg Array.toList h
  simpa using this
theorem wv_cut {a b : Int} (ha : Wd a) (hb : Wd b) {x y : List Value} (h : wv a ++ x = wv b ++ y) : a = b ∧ x = y := by
  have h1 := List.append_inj h (by rw [wv_length, wv_length])
  exact ⟨(wv_inj ha hb).1 h1.1, h1.2⟩
theorem int_cut {a b : Int} {x y : List Value} (h : Value.int .i64 a :: x = Value.int .i64 b :: y) : a = b ∧ x = y := by
  simpa using h
theorem str_cut {a b : List UInt8} {x y : List Value} (h : str a :: x = str b :: y) : a = b ∧ x = y := by
  have h1 := List.cons.inj h
  exact ⟨str_inj h1.1, h1.2⟩
theorem ak_cut {a b : Ak} (ha : AkIn a) (hb : AkIn b) {x y : List Value} (h : a.cells ++ x = b.cells ++ y) : a = b ∧ x = y := by
  cases a; cases b
  simp only [Ak.cells, List.cons_append, List.nil_append, List.append_assoc] at h
  obtain ⟨e1, h⟩ := int_cut h
  obtain ⟨e2, h⟩ := int_cut h
  obtain ⟨e3, h⟩ := int_cut h
  obtain ⟨e4, h⟩ := int_cut h
  obtain ⟨e5, h⟩ := wv_cut ha.am hb.am h
  obtain ⟨e6, h⟩ := str_cut h
  exact ⟨by simp_all, h⟩
theorem iv_cut {a b : Iv} {x y : List Value} (h : a.cells ++ x = b.cells ++ y) : a = b ∧ x = y := by
  cases a; cases b
  simp only [Iv.cells, invc, List.cons_append, List.nil_append, List.append_assoc] at h
  obtain ⟨e1, h⟩ := int_cut h
  obtain ⟨e2, h⟩ := str_cut h
  obtain ⟨e3, h⟩ := int_cut h
  obtain ⟨e4, h⟩ := int_cut h
  obtain ⟨e5, h⟩ := int_cut h
  obtain ⟨e6, h⟩ := int_cut h
  obtain ⟨e7, h⟩ := str_cut h
  exact ⟨by simp_all, h⟩
theorem bd_cut {a b : Bd} (ha : BdIn a) (hb : BdIn b) {x y : List Value} (h : a.cells ++ x = b.cells ++ y) : a = b ∧ x = y := by
  cases a; cases b
  simp only [Bd.cells, List.cons_append, List.nil_append, List.append_assoc] at h
  obtain ⟨e1, h⟩ := int_cut h
  obtain ⟨e2, h⟩ := ak_cut ha.ask hb.ask h
  obtain ⟨e3, h⟩ := wv_cut ha.am hb.am h
  obtain ⟨e4, h⟩ := int_cut h
  obtain ⟨e5, h⟩ := str_cut h
  exact ⟨by simp_all, h⟩
theorem mg_inj {a b : Mg} (ha : MgIn a) (hb : MgIn b) (h : a.cells = b.cells) : a = b := by
  cases a; cases b
  simp only [Mg.cells] at h
  obtain ⟨e1, h⟩ := int_cut h
  obtain ⟨e2, h⟩ := ak_cut ha.ask hb.ask h
  obtain ⟨e3, h⟩ := bd_cut ha.bid hb.bid h
  obtain ⟨e4, h⟩ := iv_cut h
  obtain ⟨e5, h⟩ := wv_cut ha.va hb.va h
  obtain ⟨e6, h⟩ := int_cut h
  obtain ⟨e7, h⟩ := wv_cut ha.fee hb.fee h
  obtain ⟨e8, h⟩ := str_cut h
  simp_all
theorem ak_inj {a b : Ak} (ha : AkIn a) (hb : AkIn b) (h : a.cells = b.cells) : a = b := (ak_cut ha hb (x := []) (y := []) (by rw [h])).1
noncomputable def aeq (a b : Ak) : Bool := @decide (a = b) (Classical.propDecidable _)
noncomputable def meq (a b : Mg) : Bool := @decide (a = b) (Classical.propDecidable _)
theorem aeq_iff {a b : Ak} : aeq a b = true ↔ a = b := by unfold aeq; exact @decide_eq_true_iff _ (Classical.propDecidable _)
theorem meq_iff {a b : Mg} : meq a b = true ↔ a = b := by unfold meq; exact @decide_eq_true_iff _ (Classical.propDecidable _)
theorem aeq_self (a : Ak) : aeq a a = true := aeq_iff.2 rfl
theorem meq_self (a : Mg) : meq a a = true := meq_iff.2 rfl
theorem aeq_f {a b : Ak} (h : a ≠ b) : aeq a b = false := by
  cases e : aeq a b with
  | false => rfl
  | true => exact absurd (aeq_iff.1 e) h
theorem meq_f {a b : Mg} (h : a ≠ b) : meq a b = false := by
  cases e : meq a b with
  | false => rfl
  | true => exact absurd (meq_iff.1 e) h
theorem ak_len (a : Ak) : a.cells.length = 9 := rfl
theorem bd_len (a : Bd) : a.cells.length = 16 := rfl
theorem iv_len (a : Iv) : a.cells.length = 7 := rfl
theorem mg_len (a : Mg) : a.cells.length = 43 := rfl
theorem ak_ones (a : Ak) : a.cells.all (·.oneCell') = true := rfl
theorem mg_ones (a : Mg) : a.cells.all (·.oneCell') = true := rfl
theorem eq_ak {a b : Ak} (ha : AkIn a) (hb : AkIn b) (w : World) : (Op.equal 39 (.agg a.cells.toArray) (.agg b.cells.toArray)).run Try.prog w = .ok (aeq a b) w := eq_flat (k := 4) (L := aksh) (by kernel_rfl) (by kernel_rfl) (by kernel_rfl) (by kernel_rfl) (by kernel_rfl) (by decide) (ak_reads (W := w) ha) (ak_reads hb) (aeq_iff.trans ⟨fun h => by rw [h], ak_inj ha hb⟩) w
theorem eq_mg {a b : Mg} (ha : MgIn a) (hb : MgIn b) (w : World) : (Op.equal 47 (.agg a.cells.toArray) (.agg b.cells.toArray)).run Try.prog w = .ok (meq a b) w := eq_flat (k := 6) (L := mgsh) (by kernel_rfl) (by kernel_rfl) (by kernel_rfl) (by kernel_rfl) (by kernel_rfl) (by decide) (mg_reads (W := w) ha) (mg_reads hb) (meq_iff.trans ⟨fun h => by rw [h], mg_inj ha hb⟩) w
section
variable {mm T' : Nat} {x y : Operand} {l : TL}
theorem Qv.eqAk {a b : Ak} (hx : ev l x = some (.agg a.cells.toArray)) (hy : ev l y = some (.agg b.cells.toArray)) (h : AkIn a) (h2 : AkIn b) : Qv Try.prog mm l (.binOp .eql 39 x y T') (.bool (aeq a b)) := Qv.eqlA hx hy (by kernel_rfl) (fun w => eq_ak h h2 w)
theorem Qv.neAk {a b : Ak} (hx : ev l x = some (.agg a.cells.toArray)) (hy : ev l y = some (.agg b.cells.toArray)) (h : AkIn a) (h2 : AkIn b) : Qv Try.prog mm l (.binOp .neq 39 x y T') (.bool !(aeq a b)) := Qv.neqA hx hy (by kernel_rfl) (fun w => eq_ak h h2 w)
theorem Qv.eqMg {a b : Mg} (hx : ev l x = some (.agg a.cells.toArray)) (hy : ev l y = some (.agg b.cells.toArray)) (h : MgIn a) (h2 : MgIn b) : Qv Try.prog mm l (.binOp .eql 47 x y T') (.bool (meq a b)) := Qv.eqlA hx hy (by kernel_rfl) (fun w => eq_mg h h2 w)
theorem Qv.neMg {a b : Mg} (hx : ev l x = some (.agg a.cells.toArray)) (hy : ev l y = some (.agg b.cells.toArray)) (h : MgIn a) (h2 : MgIn b) : Qv Try.prog mm l (.binOp .neq 47 x y T') (.bool !(meq a b)) := Qv.neqA hx hy (by kernel_rfl) (fun w => eq_mg h h2 w)
end
end Go.Proofs.Ytfcaeifpclpnoaa.Msg
