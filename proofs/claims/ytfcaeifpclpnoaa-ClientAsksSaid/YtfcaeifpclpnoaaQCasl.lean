/-
  The law ClientAsks. No conditions.
-/
import Derived.Test.YtfcaeifpclpnoaaQDeal
import Derived.Test.YtfcaeifpclpnoaaQCfe
namespace Go.Proofs.Ytfcaeifpclpnoaa.Msg
open Go Go.RowKit Eng
set_option linter.unusedVariables false
set_option maxRecDepth 100000
set_option linter.unusedSimpArgs false
open Wide Tx
set_option maxHeartbeats 1000000
/-- Whole numbers of 64 bits. -/
def I64 (x : Int) : Prop := (Lit.int .i64 x).wf = true
theorem i64_of {x : Int} (h0 : -9223372036854775808 ≤ x) (h1 : x ≤ 9223372036854775807) : I64 x := by
  simp [I64, Lit.wf, IntKind.min, IntKind.max, IntKind.signed, IntKind.bits]
  omega
theorem reads_at {W : World} : ∀ {L : List Sh} {cs : List Value} {k : Nat} {s : Sh}, Sh.ReadsL W L cs → L[k]? = some s → ∃ v, cs[k]? = some v ∧ Sh.Reads W s v
  | [], cs, k, s, _, hk => by simp at hk
  | s0 :: L, cs, k, s, h, hk => by
    simp only [Sh.ReadsL] at h
    obtain ⟨v, cs', rfl, h1, h2⟩ := h
    cases k with
    | zero =>
      simp only [List.getElem?_cons_zero, Option.some.injEq] at hk
      subst hk
      exact ⟨v, rfl, h1⟩
    | succ k =>
      rw [List.getElem?_cons_succ] at hk ⊢
      exact reads_at h2 hk
theorem reads_i {W : World} {L : List Sh} {cs : List Value} (h : Sh.ReadsL W (.int .i64 :: L) cs) : ∃ x ds, cs = .int .i64 x :: ds ∧ I64 x ∧ Sh.ReadsL W L ds := by
  simp only [Sh.ReadsL, Sh.Reads] at h
  obtain ⟨v, ds, rfl, ⟨x, rfl, h1⟩, h2⟩ := h
  exact ⟨x, ds, rfl, h1, h2⟩
theorem reads_s {W : World} {L : List Sh} {cs : List Value} (h : Sh.ReadsL W (.str :: L) cs) : ∃ (x : List UInt8) (ds : List Value), cs = str x :: ds ∧ x.length ≤ maxLen ∧ Sh.ReadsL W L ds := by
  simp only [Sh.ReadsL, Sh.Reads] at h
  obtain ⟨v, ds, rfl, ⟨x, rfl, h1⟩, h2⟩ := h
  exact ⟨x.data.toList, ds, rfl, by simpa using h1, h2⟩
theorem reads_w {W : World} {L : List Sh} {cs : List Value} (h : Sh.ReadsL W (wsh ++ L) cs) : ∃ x ds, cs = wv x ++ ds ∧ Wd x ∧ Sh.ReadsL W L ds := by
  obtain ⟨h1, h2⟩ := ReadsL_split h
  obtain ⟨x, hx, e⟩ := reads_wv h1
  exact ⟨x, cs.drop wsh.length, by rw [← e, List.take_append_drop], hx, h2⟩
/-- An ask. -/
structure Ak where
  us : Int
  se : Int
  re : Int
  to : Int
  am : Int
  id : List UInt8
def Ak.cells (a : Ak) : List Value := [.int .i64 a.us, .int .i64 a.se, .int .i64 a.re, .int .i64 a.to] ++ wv a.am ++ [str a.id]
structure AkIn (a : Ak) : Prop where
  us : I64 a.us
  se : I64 a.se
  re : I64 a.re
  to : I64 a.to
  am : Wd a.am
  id : a.id.length ≤ maxLen
/-- A transfer. -/
structure Iv where
  us : Int
  rt : List UInt8
  ro : Int
  se : Int
  re : Int
  to : Int
  id : List UInt8
def Iv.cells (i : Iv) : List Value := invc i.us i.rt i.ro i.se i.re i.to i.id
structure IvIn (a : Iv) : Prop where
  us : I64 a.us
  rt : a.rt.length ≤ maxLen
  ro : I64 a.ro
  se : I64 a.se
  re : I64 a.re
  to : I64 a.to
  id : a.id.length ≤ maxLen
/-- A bid. -/
structure Bd where
  ro : Int
  ask : Ak
  am : Int
  un : Int
  sg : List UInt8
def Bd.cells (b : Bd) : List Value := .int .i64 b.ro :: (b.ask.cells ++ (wv b.am ++ [.int .i64 b.un, str b.sg]))
structure BdIn (b : Bd) : Prop where
  ro : I64 b.ro
  ask : AkIn b.ask
  am : Wd b.am
  un : I64 b.un
  sg : b.sg.length ≤ maxLen
/-- A message. -/
structure Mg where
  ki : Int
  ask : Ak
  bid : Bd
  inv : Iv
  va : Int
  ex : Int
  fee : Int
  sg : List UInt8
def Mg.cells (m : Mg) : List Value := .int .i64 m.ki :: (m.ask.cells ++ (m.bid.cells ++ (m.inv.cells ++ (wv m.va ++ (.int .i64 m.ex :: (wv m.fee ++ [str m.sg]))))))
structure MgIn (m : Mg) : Prop where
  ki : I64 m.ki
  ask : AkIn m.ask
  bid : BdIn m.bid
  inv : IvIn m.inv
  va : Wd m.va
  ex : I64 m.ex
  fee : Wd m.fee
  sg : m.sg.length ≤ maxLen
def ak0 : Ak := ⟨0, 0, 0, 0, 0, []⟩
def bd0 : Bd := ⟨0, ak0, 0, 0, []⟩
def iv0 : Iv := ⟨0, [], 0, 0, 0, 0, []⟩
def mg0 : Mg := ⟨0, ak0, bd0, iv0, 0, 0, 0, []⟩
theorem i64_0 : I64 0 := i64_of (by decide) (by decide)
theorem wd_0 : Wd 0 := by unfold Wd; omega
theorem ak0_in : AkIn ak0 := ⟨i64_0, i64_0, i64_0, i64_0, wd_0, Nat.zero_le _⟩
theorem bd0_in : BdIn bd0 := ⟨i64_0, ak0_in, wd_0, i64_0, Nat.zero_le _⟩
theorem iv0_in : IvIn iv0 := ⟨i64_0, Nat.zero_le _, i64_0, i64_0, i64_0, i64_0, Nat.zero_le _⟩
theorem mg0_in : MgIn mg0 := ⟨i64_0, ak0_in, bd0_in, iv0_in, wd_0, i64_0, wd_0, Nat.zero_le _⟩
/-- Shapes. -/
def aksh : List Sh := .int .i64 :: .int .i64 :: .int .i64 :: .int .i64 :: (wsh ++ [.str])
def bdsh : List Sh := .int .i64 :: (aksh ++ (wsh ++ [.int .i64, .str]))
def ivsh : List Sh := [.int .i64, .str, .int .i64, .int .i64, .int .i64, .int .i64, .str]
def mgsh : List Sh := .int .i64 :: (aksh ++ (bdsh ++ (ivsh ++ (wsh ++ (.int .i64 :: (wsh ++ [.str]))))))
theorem rd_s {W : World} {l : List UInt8} (hl : l.length ≤ maxLen) : Sh.Reads W .str (str l) := ⟨_, rfl, by show l.toArray.size ≤ maxLen; simpa using hl⟩
theorem rd_i {W : World} {x : Int} (hx : I64 x) : Sh.Reads W (.int .i64) (.int .i64 x) := ⟨x, rfl, hx⟩
theorem rd_app {W : World} {L M : List Sh} {cs ds : List Value} (h1 : Sh.ReadsL W L cs) (h2 : Sh.ReadsL W M ds) : Sh.ReadsL W (L ++ M) (cs ++ ds) := Sh.ReadsL.append (by rw [← h1.length, List.take_left]; exact h1) (by rw [← h1.length, List.drop_left]; exact h2)
theorem rd_nil {W : World} : Sh.ReadsL W [] [] := rfl
theorem rd_cons {W : World} {s : Sh} {L : List Sh} {v : Value} {cs : List Value} (h1 : Sh.Reads W s v) (h2 : Sh.ReadsL W L cs) : Sh.ReadsL W (s :: L) (v :: cs) := ⟨_, _, rfl, h1, h2⟩
theorem ak_reads {W : World} {a : Ak} (h : AkIn a) : Sh.ReadsL W aksh a.cells := rd_cons (rd_i h.us) (rd_cons (rd_i h.se) (rd_cons (rd_i h.re) (rd_cons (rd_i h.to) (rd_app (wv_reads _) (rd_cons (rd_s h.id) rd_nil)))))
theorem iv_reads {W : World} {a : Iv} (h : IvIn a) : Sh.ReadsL W ivsh a.cells := rd_cons (rd_i h.us) (rd_cons (rd_s h.rt) (rd_cons (rd_i h.ro) (rd_cons (rd_i h.se) (rd_cons (rd_i h.re) (rd_cons (rd_i h.to) (rd_cons (rd_s h.id) rd_nil))))))
theorem bd_reads {W : World} {b : Bd} (h : BdIn b) : Sh.ReadsL W bdsh b.cells := rd_cons (rd_i h.ro) (rd_app (ak_reads h.ask) (rd_app (wv_reads _) (rd_cons (rd_i h.un) (rd_cons (rd_s h.sg) rd_nil))))
theorem mg_reads {W : World} {m : Mg} (h : MgIn m) : Sh.ReadsL W mgsh m.cells := rd_cons (rd_i h.ki) (rd_app (ak_reads h.ask) (rd_app (bd_reads h.bid) (rd_app (iv_reads h.inv) (rd_app (wv_reads _) (rd_cons (rd_i h.ex) (rd_app (wv_reads _) (rd_cons (rd_s h.sg) rd_nil)))))))
theorem reads_ak {W : World} {L : List Sh} {cs : List Value} (h : Sh.ReadsL W (aksh ++ L) cs) : ∃ a ds, cs = Ak.cells a ++ ds ∧ AkIn a ∧ Sh.ReadsL W L ds := by
  unfold aksh at h
  simp only [List.cons_append, List.append_assoc, List.nil_append] at h
  obtain ⟨us, c1, rfl, h1, h⟩ := reads_i h
  obtain ⟨se, c2, rfl, h2, h⟩ := reads_i h
  obtain ⟨re, c3, rfl, h3, h⟩ := reads_i h
  obtain ⟨to, c4, rfl, h4, h⟩ := reads_i h
  obtain ⟨am, c5, rfl, h5, h⟩ := reads_w h
  obtain ⟨id, c6, rfl, h6, h⟩ := reads_s h
  exact ⟨⟨us, se, re, to, am, id⟩, c6, by simp [Ak.cells], ⟨h1, h2, h3, h4, h5, h6⟩, h⟩
theorem reads_iv {W : World} {L : List Sh} {cs : List Value} (h : Sh.ReadsL W (ivsh ++ L) cs) : ∃ a ds, cs = Iv.cells a ++ ds ∧ IvIn a ∧ Sh.ReadsL W L ds := by
  unfold ivsh at h
  simp only [List.cons_append, List.append_assoc, List.nil_append] at h
  obtain ⟨us, c1, rfl, h1, h⟩ := reads_i h
  obtain ⟨rt, c2, rfl, h2, h⟩ := reads_s h
  obtain ⟨ro, c3, rfl, h3, h⟩ := reads_i h
  obtain ⟨se, c4, rfl, h4, h⟩ := reads_i h
  obtain ⟨re, c5, rfl, h5, h⟩ := reads_i h
  obtain ⟨to, c6, rfl, h6, h⟩ := reads_i h
  obtain ⟨id, c7, rfl, h7, h⟩ := reads_s h
  exact ⟨⟨us, rt, ro, se, re, to, id⟩, c7, by simp [Iv.cells, invc], ⟨h1, h2, h3, h4, h5, h6, h7⟩, h⟩
theorem reads_bd {W : World} {L : List Sh} {cs : List Value} (h : Sh.ReadsL W (bdsh ++ L) cs) : ∃ a ds, cs = Bd.cells a ++ ds ∧ BdIn a ∧ Sh.ReadsL W L ds := by
  unfold bdsh at h
  simp only [List.cons_append, List.append_assoc, List.nil_append] at h
  obtain ⟨ro, c1, rfl, h1, h⟩ := reads_i h
  obtain ⟨ask, c2, rfl, h2, h⟩ := reads_ak h
  obtain ⟨am, c3, rfl, h3, h⟩ := reads_w h
  obtain ⟨un, c4, rfl, h4, h⟩ := reads_i h
  obtain ⟨sg, c5, rfl, h5, h⟩ := reads_s h
  exact ⟨⟨ro, ask, am, un, sg⟩, c5, by simp [Bd.cells], ⟨h1, h2, h3, h4, h5⟩, h⟩
theorem reads_mg {W : World} {cs : List Value} (h : Sh.ReadsL W mgsh cs) : ∃ m, cs = Mg.cells m ∧ MgIn m := by
  unfold mgsh at h
  obtain ⟨ki, c1, rfl, h1, h⟩ := reads_i h
  obtain ⟨ask, c2, rfl, h2, h⟩ := reads_ak h
  obtain ⟨bid, c3, rfl, h3, h⟩ := reads_bd h
  obtain ⟨inv, c4, rfl, h4, h⟩ := reads_iv h
  obtain ⟨va, c5, rfl, h5, h⟩ := reads_w h
  obtain ⟨ex, c6, rfl, h6, h⟩ := reads_i h
  obtain ⟨fee, c7, rfl, h7, h⟩ := reads_w h
  obtain ⟨sg, c8, rfl, h8, h⟩ := reads_s h
  simp only [Sh.ReadsL] at h
  subst h
  exact ⟨⟨ki, ask, bid, inv, va, ex, fee, sg⟩, rfl, ⟨h1, h2, h3, h4, h5, h6, h7, h8⟩⟩
/-- Cells are one just if what they are of is. -/
theorem str_inj {a b : List UInt8} (h : str a = str b) : a = b := by
  simp only [str, Value.string.injEq, ByteArray.mk.injEq] at h
  have := congrArg Array.toList h
  simpa using this
theorem wv_cut {a b : Int} (ha : Wd a) (hb : Wd b) {x y : List Value} (h : wv a ++ x = wv b ++ y) : a = b ∧ x = y := by
  have h1 := List.append_inj h (by rw [wv_length, wv_length])
  exact ⟨(wv_inj ha hb).1 h1.1, h1.2⟩
theorem int_cut {a b : Int} {x y : List Value} (h : Value.int .i64 a :: x = Value.int .i64 b :: y) : a = b ∧ x = y := by
  simpa using h
theorem str_cut {a b : List UInt8} {x y : List Value} (h : str a :: x = str b :: y) : a = b ∧ x = y := by
  have h1 := List.cons.inj h
  exact ⟨str_inj h1.1, h1.2⟩
theorem ak_cut {a b : Ak} (ha : AkIn a) (hb : AkIn b) {x y : List Value} (h : a.cells ++ x = b.cells ++ y) : a = b ∧ x = y := by
  cases a; cases b
  simp only [Ak.cells, List.cons_append, List.nil_append, List.append_assoc] at h
  obtain ⟨e1, h⟩ := int_cut h
  obtain ⟨e2, h⟩ := int_cut h
  obtain ⟨e3, h⟩ := int_cut h
  obtain ⟨e4, h⟩ := int_cut h
  obtain ⟨e5, h⟩ := wv_cut ha.am hb.am h
  obtain ⟨e6, h⟩ := str_cut h
  exact ⟨by simp_all, h⟩
theorem iv_cut {a b : Iv} {x y : List Value} (h : a.cells ++ x = b.cells ++ y) : a = b ∧ x = y := by
  cases a; cases b
  simp only [Iv.cells, invc, List.cons_append, List.nil_append, List.append_assoc] at h
  obtain ⟨e1, h⟩ := int_cut h
  obtain ⟨e2, h⟩ := str_cut h
  obtain ⟨e3, h⟩ := int_cut h
  obtain ⟨e4, h⟩ := int_cut h
  obtain ⟨e5, h⟩ := int_cut h
  obtain ⟨e6, h⟩ := int_cut h
  obtain ⟨e7, h⟩ := str_cut h
  exact ⟨by simp_all, h⟩
theorem bd_cut {a b : Bd} (ha : BdIn a) (hb : BdIn b) {x y : List Value} (h : a.cells ++ x = b.cells ++ y) : a = b ∧ x = y := by
  cases a; cases b
  simp only [Bd.cells, List.cons_append, List.nil_append, List.append_assoc] at h
  obtain ⟨e1, h⟩ := int_cut h
  obtain ⟨e2, h⟩ := ak_cut ha.ask hb.ask h
  obtain ⟨e3, h⟩ := wv_cut ha.am hb.am h
  obtain ⟨e4, h⟩ := int_cut h
  obtain ⟨e5, h⟩ := str_cut h
  exact ⟨by simp_all, h⟩
theorem mg_inj {a b : Mg} (ha : MgIn a) (hb : MgIn b) (h : a.cells = b.cells) : a = b := by
  cases a; cases b
  simp only [Mg.cells] at h
  obtain ⟨e1, h⟩ := int_cut h
  obtain ⟨e2, h⟩ := ak_cut ha.ask hb.ask h
  obtain ⟨e3, h⟩ := bd_cut ha.bid hb.bid h
  obtain ⟨e4, h⟩ := iv_cut h
  obtain ⟨e5, h⟩ := wv_cut ha.va hb.va h
  obtain ⟨e6, h⟩ := int_cut h
  obtain ⟨e7, h⟩ := wv_cut ha.fee hb.fee h
  obtain ⟨e8, h⟩ := str_cut h
  simp_all
theorem ak_inj {a b : Ak} (ha : AkIn a) (hb : AkIn b) (h : a.cells = b.cells) : a = b := (ak_cut ha hb (x := []) (y := []) (by rw [h])).1
noncomputable def aeq (a b : Ak) : Bool := @decide (a = b) (Classical.propDecidable _)
noncomputable def meq (a b : Mg) : Bool := @decide (a = b) (Classical.propDecidable _)
theorem aeq_iff {a b : Ak} : aeq a b = true ↔ a = b := by unfold aeq; exact @decide_eq_true_iff _ (Classical.propDecidable _)
theorem meq_iff {a b : Mg} : meq a b = true ↔ a = b := by unfold meq; exact @decide_eq_true_iff _ (Classical.propDecidable _)
theorem aeq_self (a : Ak) : aeq a a = true := aeq_iff.2 rfl
theorem meq_self (a : Mg) : meq a a = true := meq_iff.2 rfl
theorem aeq_f {a b : Ak} (h : a ≠ b) : aeq a b = false := by
  cases e : aeq a b with
  | false => rfl
  | true => exact absurd (aeq_iff.1 e) h
theorem meq_f {a b : Mg} (h : a ≠ b) : meq a b = false := by
  cases e : meq a b with
  | false => rfl
  | true => exact absurd (meq_iff.1 e) h
theorem ak_len (a : Ak) : a.cells.length = 9 := rfl
theorem bd_len (a : Bd) : a.cells.length = 16 := rfl
theorem iv_len (a : Iv) : a.cells.length = 7 := rfl
theorem mg_len (a : Mg) : a.cells.length = 43 := rfl
theorem ak_ones (a : Ak) : a.cells.all (·.oneCell') = true := rfl
theorem mg_ones (a : Mg) : a.cells.all (·.oneCell') = true := rfl
theorem eq_ak {a b : Ak} (ha : AkIn a) (hb : AkIn b) (w : World) : (Op.equal 39 (.agg a.cells.toArray) (.agg b.cells.toArray)).run Try.prog w = .ok (aeq a b) w := eq_flat (k := 4) (L := aksh) (by kernel_rfl) (by kernel_rfl) (by kernel_rfl) (by kernel_rfl) (by kernel_rfl) (by decide) (ak_reads (W := w) ha) (ak_reads hb) (aeq_iff.trans ⟨fun h => by rw [h], ak_inj ha hb⟩) w
theorem eq_mg {a b : Mg} (ha : MgIn a) (hb : MgIn b) (w : World) : (Op.equal 47 (.agg a.cells.toArray) (.agg b.cells.toArray)).run Try.prog w = .ok (meq a b) w := eq_flat (k := 6) (L := mgsh) (by kernel_rfl) (by kernel_rfl) (by kernel_rfl) (by kernel_rfl) (by kernel_rfl) (by decide) (mg_reads (W := w) ha) (mg_reads hb) (meq_iff.trans ⟨fun h => by rw [h], mg_inj ha hb⟩) w
section
variable {mm T' : Nat} {x y : Operand} {l : TL}
theorem Qv.eqAk {a b : Ak} (hx : ev l x = some (.agg a.cells.toArray)) (hy : ev l y = some (.agg b.cells.toArray)) (h : AkIn a) (h2 : AkIn b) : Qv Try.prog mm l (.binOp .eql 39 x y T') (.bool (aeq a b)) := Qv.eqlA hx hy (by kernel_rfl) (fun w => eq_ak h h2 w)
theorem Qv.neAk {a b : Ak} (hx : ev l x = some (.agg a.cells.toArray)) (hy : ev l y = some (.agg b.cells.toArray)) (h : AkIn a) (h2 : AkIn b) : Qv Try.prog mm l (.binOp .neq 39 x y T') (.bool !(aeq a b)) := Qv.neqA hx hy (by kernel_rfl) (fun w => eq_ak h h2 w)
theorem Qv.eqMg {a b : Mg} (hx : ev l x = some (.agg a.cells.toArray)) (hy : ev l y = some (.agg b.cells.toArray)) (h : MgIn a) (h2 : MgIn b) : Qv Try.prog mm l (.binOp .eql 47 x y T') (.bool (meq a b)) := Qv.eqlA hx hy (by kernel_rfl) (fun w => eq_mg h h2 w)
theorem Qv.neMg {a b : Mg} (hx : ev l x = some (.agg a.cells.toArray)) (hy : ev l y = some (.agg b.cells.toArray)) (h : MgIn a) (h2 : MgIn b) : Qv Try.prog mm l (.binOp .neq 47 x y T') (.bool !(meq a b)) := Qv.neqA hx hy (by kernel_rfl) (fun w => eq_mg h h2 w)
end
end Go.Proofs.Ytfcaeifpclpnoaa.Msg
namespace Go.Proofs.Ytfcaeifpclpnoaa.Cas
open Go Go.RowKit Eng
set_option linter.unusedVariables false
set_option maxRecDepth 100000
set_option linter.unusedSimpArgs false
open Sha Iter Hash Bytes Hsum Ots Rsum Rovr Mrt Mrr Wide Tx Cli Cfe Msg
set_option maxHeartbeats 1000000
/-- May an ask be? -/
def rr8 : List UInt8 := [114, 111, 111, 116, 114, 111, 111, 116]
def r18 : List UInt8 := [49, 50, 51, 52, 53, 54, 55, 56]
def staF (a : Ak) (rt : List UInt8) (ro : Int) : Iv := ⟨a.us, rt, ro, a.se, a.re, a.to, a.id⟩
def askE (a : Ak) : Int := if a.am = 0 then 39 else invE a.us rr8 2 a.se a.re a.to a.id
theorem invE_rt {us ro se re to : Int} {rt rt' id : List UInt8} (h : rt.length = rt'.length) : invE us rt ro se re to id = invE us rt' ro se re to id := by unfold invE; rw [h]
theorem invE_or (us ro se re to : Int) (rt id : List UInt8) : invE us rt ro se re to id = 0 ∨ invE us rt ro se re to id = 39 := by
  unfold invE
  split
  · exact .inl rfl
  · exact .inr rfl
theorem askE_or (a : Ak) : askE a = 0 ∨ askE a = 39 := by
  unfold askE
  split
  · exact .inr rfl
  · exact invE_or _ _ _ _ _ _ _
theorem askE_0 {a : Ak} (h : a.am = 0) : askE a = 39 := if_pos h
theorem askE_1 {a : Ak} (h : ¬ a.am = 0) : askE a = invE a.us rr8 2 a.se a.re a.to a.id := if_neg h
theorem askE_2 {a : Ak} (h : ¬ a.am = 0) : askE a = invE a.us r18 2 a.se a.re a.to a.id := (askE_1 h).trans (invE_rt rfl)
/-- A new message of an ask. -/
def mk1 (a : Ak) : Mg := ⟨1, a, bd0, iv0, 0, 0, 0, []⟩
theorem mk1_in {a : Ak} (h : AkIn a) : MgIn (mk1 a) := ⟨i64_of (x := 1) (by decide) (by decide), h, bd0_in, iv0_in, wd_0, i64_0, wd_0, Nat.zero_le _⟩
def entC (b : Ak) (s : Int) : List Value := b.cells ++ [.int .i64 s, .slice none 0 0]
def nowF (n : Int) : Int := if n < 0 ∨ 1099511627776 < n then 0 else n
def okA (u : Int) (a : Ak) : Bool := decide (a.us = u) && decide (askE a = 0)
theorem okA_y {u : Int} {a : Ak} (h1 : a.us = u) (h2 : askE a = 0) : okA u a = true := by simp [okA, h1, h2]
theorem okA_u {u : Int} {a : Ak} (h1 : ¬ a.us = u) : okA u a = false := by simp [okA, h1]
theorem okA_e {u : Int} {a : Ak} (h1 : ¬ askE a = 0) : okA u a = false := by simp [okA, h1]
theorem stand_ (a : Ak) (ro : Int) (w : World) (hw : True) : CSpec Try.prog 101 [.agg a.cells.toArray, .int .i64 ro] [] w (Gives (.agg (Iv.cells (staF a rr8 ro)).toArray)) := by
  refine spec_own0 Try.func101 rfl Try.ntmps101 rfl (l0 := [(0, .agg a.cells.toArray), (1, .int .i64 ro)]) rfl ?_
  repeat' first
    | (refine J.qv ?_; (with_reducible apply exq); focus (first
      | ((with_reducible apply Qv.buildS (T := 43)); exact rfl; (show _ = some (Iv.cells (staF a rr8 ro))); kernel_rfl)))
    | (refine J.qr ?_; (with_reducible apply exq); focus (first
      | ((with_reducible apply Qr.load1); exact rfl; (focus ((repeat (first | with_reducible exact In.here | with_reducible apply In.there)); done)); exact rfl)))
    | ((with_reducible apply J.storeFull); exact rfl; exact rfl; (repeat (first | with_reducible exact Upd.here | with_reducible apply Upd.there)); (with_reducible first | exact mg_len _ | exact iv_len _); (focus kernel_rfl); (with_reducible first | exact mg_ones _ | exact rfl))
    | refine J.one ?_
    | refine J.loudS ?_
    | (refine J.loudQ ?_; intro _ _)
    | (refine J.loudB ?_; intro _)
    | (with_reducible apply J.list)
    | ((with_reducible apply J.gsplit); exact rfl; exact rfl)
    | ((with_reducible first | apply J.cond | apply JC.cond); exact rfl)
    | (intro h; exfalso; fail)
    | (intro h; (try simp only [decide_eq_true_eq, decide_eq_false_iff_not, beq_iff_eq, beq_eq_false_iff_ne, Bool.not_eq_true', Bool.not_eq_false', bne_iff_ne, bne_eq_false_iff_eq, ne_eq, ge_iff_le, gt_iff_lt] at h))
    | (with_reducible apply J.gave')
    | ((with_reducible apply J.kept'); rotate_left; (repeat (first | (with_reducible exact Outs.nil) | ((with_reducible apply Outs.cons); (repeat (first | with_reducible exact Out.here | with_reducible apply Out.there))))))
  all_goals (rfl)
theorem rstand_ (a : Ak) (ro : Int) (w : World) (hw : True) : CSpec Try.prog 42 [.agg a.cells.toArray, .int .i64 ro] [] w (Gives (.agg (Iv.cells (staF a r18 ro)).toArray)) := by
  refine spec_own0 Try.func42 rfl Try.ntmps42 rfl (l0 := [(0, .agg a.cells.toArray), (1, .int .i64 ro)]) rfl ?_
  repeat' first
    | (refine J.qv ?_; (with_reducible apply exq); focus (first
      | ((with_reducible apply Qv.buildS (T := 43)); exact rfl; (show _ = some (Iv.cells (staF a r18 ro))); kernel_rfl)))
    | (refine J.qr ?_; (with_reducible apply exq); focus (first
      | ((with_reducible apply Qr.load1); exact rfl; (focus ((repeat (first | with_reducible exact In.here | with_reducible apply In.there)); done)); exact rfl)))
    | ((with_reducible apply J.storeFull); exact rfl; exact rfl; (repeat (first | with_reducible exact Upd.here | with_reducible apply Upd.there)); (with_reducible first | exact mg_len _ | exact iv_len _); (focus kernel_rfl); (with_reducible first | exact mg_ones _ | exact rfl))
    | refine J.one ?_
    | refine J.loudS ?_
    | (refine J.loudQ ?_; intro _ _)
    | (refine J.loudB ?_; intro _)
    | (with_reducible apply J.list)
    | ((with_reducible apply J.gsplit); exact rfl; exact rfl)
    | ((with_reducible first | apply J.cond | apply JC.cond); exact rfl)
    | (intro h; exfalso; fail)
    | (intro h; (try simp only [decide_eq_true_eq, decide_eq_false_iff_not, beq_iff_eq, beq_eq_false_iff_ne, Bool.not_eq_true', Bool.not_eq_false', bne_iff_ne, bne_eq_false_iff_eq, ne_eq, ge_iff_le, gt_iff_lt] at h))
    | (with_reducible apply J.gave')
    | ((with_reducible apply J.kept'); rotate_left; (repeat (first | (with_reducible exact Outs.nil) | ((with_reducible apply Outs.cons); (repeat (first | with_reducible exact Out.here | with_reducible apply Out.there))))))
  all_goals (rfl)
theorem check_ask (a : Ak) (ha : AkIn a) (w : World) (hw : True) : CSpec Try.prog 68 [.agg a.cells.toArray] [] w (Gives (.int .i64 (askE a))) := by
  refine spec_own0 Try.func68 rfl Try.ntmps68 rfl (l0 := [(0, .agg a.cells.toArray)]) rfl ?_
  repeat' first
    | (refine J.qv ?_; (with_reducible apply exq); focus (first
      | ((with_reducible apply Qv.eqlA); exact rfl; exact rfl; kernel_rfl; (exact fun w => weq a.am 0 ⟨ha.am, wd_0⟩ w))))
    | (refine J.qr ?_; (with_reducible apply exq); focus (first
      | ((with_reducible apply Qr.loadN); exact rfl; (focus ((repeat (first | with_reducible exact In.here | with_reducible apply In.there)); done)); exact (show (a.cells.drop 4).take 4 = wv a.am from rfl); with_reducible exact wv_length _)
      | ((with_reducible apply Qr.loadFull); exact rfl; (focus ((repeat (first | with_reducible exact In.here | with_reducible apply In.there)); done)); (with_reducible first | exact ak_len _ | exact mg_len _ | exact wv_length _ | exact iv_len _))))
    | ((with_reducible apply J.givesR (stand_ a 2)); exact rfl; exact rfl; focus (exact RH.true_))
    | ((with_reducible apply J.givesW (dealCheck a.us rr8 2 a.se a.re a.to a.id)); exact rfl; exact rfl)
    | refine J.one ?_
    | refine J.loudS ?_
    | (refine J.loudQ ?_; intro _ _)
    | (refine J.loudB ?_; intro _)
    | (with_reducible apply J.list)
    | ((with_reducible apply J.gsplit); exact rfl; exact rfl)
    | ((with_reducible first | apply J.cond | apply JC.cond); exact rfl)
    | (intro h; exfalso; (first | (simp at h; done) | omega))
    | (intro h; (try simp only [decide_eq_true_eq, decide_eq_false_iff_not, beq_iff_eq, beq_eq_false_iff_ne, Bool.not_eq_true', Bool.not_eq_false', bne_iff_ne, bne_eq_false_iff_eq, ne_eq, ge_iff_le, gt_iff_lt] at h))
    | (with_reducible apply J.gave')
    | ((with_reducible apply J.kept'); rotate_left; (repeat (first | (with_reducible exact Outs.nil) | ((with_reducible apply Outs.cons); (repeat (first | with_reducible exact Out.here | with_reducible apply Out.there))))))
  all_goals
    first
    | (simp only [retv]; rw [askE_0 (by assumption)]; done)
    | (simp only [retv]; rw [askE_1 (by assumption)]; done)
    | (trace_state; fail)
theorem inB_iff {n a b : Int} : inB n a b = true ↔ a ≤ n ∧ n ≤ b := by unfold inB; simp
theorem invE_yes {us ro se re to : Int} {rt id : List UInt8} (h : 0 ≤ us ∧ us ≤ 1 ∧ 2 ≤ ro ∧ ro ≤ 3 ∧ 0 ≤ se ∧ se ≤ 1 ∧ 0 ≤ re ∧ re ≤ 1 ∧ 0 ≤ to ∧ to ≤ 7 ∧ rt.length = 8 ∧ 1 ≤ id.length ∧ id.length ≤ 16) : Value.int .i64 0 = .int .i64 (invE us rt ro se re to id) := by
  unfold invE
  simp only [inB_iff]
  rw [if_pos (by omega)]
theorem invE_no {us ro se re to : Int} {rt id : List UInt8} (h : ¬(0 ≤ us ∧ us ≤ 1 ∧ 2 ≤ ro ∧ ro ≤ 3 ∧ 0 ≤ se ∧ se ≤ 1 ∧ 0 ≤ re ∧ re ≤ 1 ∧ 0 ≤ to ∧ to ≤ 7 ∧ rt.length = 8 ∧ 1 ≤ id.length ∧ id.length ≤ 16)) : Value.int .i64 39 = .int .i64 (invE us rt ro se re to id) := by
  unfold invE
  simp only [inB_iff]
  rw [if_neg (by omega)]
theorem rinv (us : Int) (rt : List UInt8) (ro se re to : Int) (id : List UInt8) (w : World) (hw : True) : CSpec Try.prog 41 [.agg (invc us rt ro se re to id).toArray] [] w (Gives (.int .i64 (invE us rt ro se re to id))) := by
  refine spec_own0 Try.func41 rfl Try.ntmps41 rfl (l0 := [(0, .agg (invc us rt ro se re to id).toArray)]) rfl ?_
  repeat' first
    | (refine J.qv ?_; (with_reducible apply exq); focus (first
      | ((with_reducible apply Qv.lenS8); exact rfl)))
    | refine J.one ?_
    | refine J.loudS ?_
    | (refine J.loudQ ?_; intro _ _)
    | (refine J.loudB ?_; intro _)
    | (with_reducible apply J.list)
    | ((with_reducible apply J.gsplit); exact rfl; exact rfl)
    | ((with_reducible first | apply J.cond | apply JC.cond); exact rfl)
    | (intro h; exfalso; (first | (simp at h; done) | omega))
    | (intro h; (try simp only [decide_eq_true_eq, decide_eq_false_iff_not, beq_iff_eq, beq_eq_false_iff_ne, Bool.not_eq_true', Bool.not_eq_false', bne_iff_ne, bne_eq_false_iff_eq, ne_eq, ge_iff_le, gt_iff_lt] at h))
    | (with_reducible apply J.gave')
    | ((with_reducible apply J.kept'); rotate_left; (repeat (first | (with_reducible exact Outs.nil) | ((with_reducible apply Outs.cons); (repeat (first | with_reducible exact Out.here | with_reducible apply Out.there))))))
  all_goals ((first | exact invE_no (by omega) | exact invE_yes (by omega) | (trace_state; fail)))
theorem askE_n {a : Ak} (h : ¬ a.am = 0) (h2 : ¬ invE a.us r18 2 a.se a.re a.to a.id = 0) : askE a = 39 := (askE_2 h).trans ((invE_or _ _ _ _ _ _ _).resolve_left h2)
theorem askE_y {a : Ak} (h : ¬ a.am = 0) (h2 : invE a.us r18 2 a.se a.re a.to a.id = 0) : askE a = 0 := (askE_2 h).trans h2
theorem rask_ (a : Ak) (ha : AkIn a) (w : World) (hw : True) : CSpec Try.prog 16 [.agg a.cells.toArray] [] w (Gives (.int .i64 (askE a))) := by
  refine spec_own0 Try.func16 rfl Try.ntmps16 rfl (l0 := [(0, .agg a.cells.toArray)]) rfl ?_
  repeat' first
    | (refine J.qv ?_; (with_reducible apply exq); focus (first
      | ((with_reducible apply Qv.eqlA); exact rfl; exact rfl; kernel_rfl; (exact fun w => weq a.am 0 ⟨ha.am, wd_0⟩ w))))
    | (refine J.qr ?_; (with_reducible apply exq); focus (first
      | ((with_reducible apply Qr.loadN); exact rfl; (focus ((repeat (first | with_reducible exact In.here | with_reducible apply In.there)); done)); exact (show (a.cells.drop 4).take 4 = wv a.am from rfl); with_reducible exact wv_length _)
      | ((with_reducible apply Qr.loadFull); exact rfl; (focus ((repeat (first | with_reducible exact In.here | with_reducible apply In.there)); done)); (with_reducible first | exact ak_len _ | exact mg_len _ | exact wv_length _ | exact iv_len _))))
    | ((with_reducible apply J.givesR (rstand_ a 2)); exact rfl; exact rfl; focus (exact RH.true_))
    | ((with_reducible apply J.givesR (rinv a.us r18 2 a.se a.re a.to a.id)); exact rfl; exact rfl; focus (exact RH.true_))
    | refine J.one ?_
    | refine J.loudS ?_
    | (refine J.loudQ ?_; intro _ _)
    | (refine J.loudB ?_; intro _)
    | (with_reducible apply J.list)
    | ((with_reducible apply J.gsplit); exact rfl; exact rfl)
    | ((with_reducible first | apply J.cond | apply JC.cond); exact rfl)
    | (intro h; exfalso; (first | (simp at h; done) | omega))
    | (intro h; (try simp only [decide_eq_true_eq, decide_eq_false_iff_not, beq_iff_eq, beq_eq_false_iff_ne, Bool.not_eq_true', Bool.not_eq_false', bne_iff_ne, bne_eq_false_iff_eq, ne_eq, ge_iff_le, gt_iff_lt] at h))
    | (with_reducible apply J.gave')
    | ((with_reducible apply J.kept'); rotate_left; (repeat (first | (with_reducible exact Outs.nil) | ((with_reducible apply Outs.cons); (repeat (first | with_reducible exact Out.here | with_reducible apply Out.there))))))
  all_goals
    first
    | (simp only [retv]; rw [askE_0 (by assumption)]; done)
    | (simp only [retv]; rw [askE_n (by assumption) (by assumption)]; done)
    | (simp only [retv]; rw [askE_y (by assumption) (by assumption)]; done)
    | (trace_state; fail)
end Go.Proofs.Ytfcaeifpclpnoaa.Cas
namespace Go.Proofs.Ytfcaeifpclpnoaa.Cask
open Go Go.RowKit Eng
set_option linter.unusedVariables false
set_option maxRecDepth 100000
set_option linter.unusedSimpArgs false
open Sha Iter Hash Bytes Hsum Ots Rsum Rovr Mrt Mrr Wide Tx Cli Cfe Msg Cas
set_option maxHeartbeats 1000000
theorem rcl_ (b a : Ak) (s : Int) (e B : Nat) (hb : AkIn b) (ha : AkIn a) (w : World) (hw : Rd w (some ⟨e, 0, none⟩) (entC b s) ∧ Rd w (some ⟨B, 0, none⟩) a.cells) : CSpec Try.prog 103 [.pointer (some ⟨e, 0, none⟩), .pointer (some ⟨B, 0, none⟩)] [] w (Gives (.bool (aeq b a))) := by
  obtain ⟨h1, h2⟩ := hw
  refine spec_own0 Try.func103 rfl Try.ntmps103 rfl (l0 := [(0, .pointer (some ⟨e, 0, none⟩)), (1, .pointer (some ⟨B, 0, none⟩))]) rfl ?_
  repeat' first
    | (refine J.qv ?_; (with_reducible apply exq); focus (first
      | ((with_reducible apply Qv.eqAk); exact rfl; exact rfl; exact hb; exact ha)))
    | (refine J.qr ?_; (with_reducible apply exq); focus (first
      | ((with_reducible apply Qr.rdN (ao := some ⟨e, 0, none⟩) (C := entC b s) (j := 0)); exact rfl; exact RH.old h1; exact (show ((entC b s).drop 0).take 9 = b.cells from rfl); exact ak_len _)
      | ((with_reducible apply Qr.rdN (ao := some ⟨B, 0, none⟩) (C := a.cells) (j := 0)); exact rfl; exact RH.old h2; exact (show (a.cells.drop 0).take 9 = a.cells from rfl); exact ak_len _)))
    | (refine J.qo ?_; refine ⟨?_, ?_⟩; focus (first
      | ((with_reducible apply Qr.rdN (ao := some ⟨e, 0, none⟩) (C := entC b s) (j := 0)); exact rfl; exact RH.old h1; exact (show ((entC b s).drop 0).take 9 = b.cells from rfl); exact ak_len _)
      | ((with_reducible apply Qr.rdN (ao := some ⟨B, 0, none⟩) (C := a.cells) (j := 0)); exact rfl; exact RH.old h2; exact (show (a.cells.drop 0).take 9 = a.cells from rfl); exact ak_len _)))
    | refine J.one ?_
    | refine J.loudS ?_
    | (refine J.loudQ ?_; intro _ _)
    | (refine J.loudB ?_; intro _)
    | (with_reducible apply J.list)
    | ((with_reducible apply J.draw (id := 1) [0, 1, 3, 7, 0, 31, 63] (.p 0 (.p 1 (.p 2 (.q 3 (.q 4 (.p 5 (.p 6 .nil))))))) (by kernel_rfl) ?_ (by kernel_rfl) ?_); (repeat (with_reducible first | exact PanicFree.body | exact PanicFree.np | exact PanicFree.lvS | apply PanicFree.then_ | apply PanicFree.blk)))
    | ((with_reducible apply J.pl2); exact rfl; (first | exact Gd.none | ((with_reducible apply Gd.on); exact rfl; exact rfl)); (repeat (first | (with_reducible exact PendF.nil) | ((with_reducible apply PendF.keep); exact rfl) | ((with_reducible apply PendF.gone); exact rfl))))
    | ((with_reducible apply J.pl2_off); exact rfl; ((with_reducible apply Gd.off); exact rfl; exact rfl; exact rfl); exact rfl; (repeat (first | (with_reducible exact PendF.nil) | ((with_reducible apply PendF.keep); exact rfl) | ((with_reducible apply PendF.gone); exact rfl))))
    | ((with_reducible apply J.pl2_off_none); exact rfl; ((with_reducible apply Gd.off); exact rfl; exact rfl; exact rfl); (repeat (first | (with_reducible exact PendF.nil) | ((with_reducible apply PendF.keep); exact rfl) | ((with_reducible apply PendF.gone); exact rfl))))
    | ((with_reducible first | apply J.psplit0 | apply J.psplit1 | apply J.psplit2); exact rfl; exact rfl; exact rfl)
    | (with_reducible exact J.pl_none)
    | ((with_reducible apply J.gsplit); exact rfl; exact rfl)
    | ((with_reducible first | apply J.cond | apply JC.cond); exact rfl)
    | (intro h; exfalso; fail)
    | (intro h; (try simp only [decide_eq_true_eq, decide_eq_false_iff_not, beq_iff_eq, beq_eq_false_iff_ne, Bool.not_eq_true', Bool.not_eq_false', bne_iff_ne, bne_eq_false_iff_eq, ne_eq, ge_iff_le, gt_iff_lt] at h))
    | (with_reducible apply J.gave')
    | ((with_reducible apply J.kept'); rotate_left; (repeat (first | (with_reducible exact Outs.nil) | ((with_reducible apply Outs.cons); (repeat (first | with_reducible exact Out.here | with_reducible apply Out.there))))))
  all_goals (rfl)
theorem cidx0 (v : Value) (w : World) (hw : True) : CSpec Try.prog 66 [.slice none 0 0, v] [] w (Gives (.int .i64 (-1))) := by
  refine spec_own0 Try.func66 rfl Try.ntmps66 rfl (l0 := [(0, .slice none 0 0), (1, v)]) rfl ?_
  repeat' first
    | (with_reducible refine J.rounds 1 ?_)
    | (with_reducible apply J.round)
    | refine J.one ?_
    | refine J.loudS ?_
    | (refine J.loudQ ?_; intro _ _)
    | (refine J.loudB ?_; intro _)
    | (with_reducible apply J.list)
    | ((with_reducible apply J.gsplit); exact rfl; exact rfl)
    | ((with_reducible first | apply J.cond | apply JC.cond); exact rfl)
    | (intro h; exfalso; (first | (revert h; decide) | (simp at h; done)))
    | (intro h; (try simp only [decide_eq_true_eq, decide_eq_false_iff_not, beq_iff_eq, beq_eq_false_iff_ne, Bool.not_eq_true', Bool.not_eq_false', bne_iff_ne, bne_eq_false_iff_eq, ne_eq, ge_iff_le, gt_iff_lt] at h))
    | (with_reducible apply J.gave')
    | ((with_reducible apply J.kept'); rotate_left; (repeat (first | (with_reducible exact Outs.nil) | ((with_reducible apply Outs.cons); (repeat (first | with_reducible exact Out.here | with_reducible apply Out.there))))))
  all_goals (rfl)
theorem ridx0 (v : Value) (w : World) (hw : True) : CSpec Try.prog 102 [.slice none 0 0, v] [] w (Gives (.int .i64 (-1))) := by
  refine spec_own0 Try.func102 rfl Try.ntmps102 rfl (l0 := [(0, .slice none 0 0), (1, v)]) rfl ?_
  repeat' first
    | (with_reducible refine J.rounds 1 ?_)
    | (with_reducible apply J.round)
    | refine J.one ?_
    | refine J.loudS ?_
    | (refine J.loudQ ?_; intro _ _)
    | (refine J.loudB ?_; intro _)
    | (with_reducible apply J.list)
    | ((with_reducible apply J.gsplit); exact rfl; exact rfl)
    | ((with_reducible first | apply J.cond | apply JC.cond); exact rfl)
    | (intro h; exfalso; (first | (revert h; decide) | (simp at h; done)))
    | (intro h; (try simp only [decide_eq_true_eq, decide_eq_false_iff_not, beq_iff_eq, beq_eq_false_iff_ne, Bool.not_eq_true', Bool.not_eq_false', bne_iff_ne, bne_eq_false_iff_eq, ne_eq, ge_iff_le, gt_iff_lt] at h))
    | (with_reducible apply J.gave')
    | ((with_reducible apply J.kept'); rotate_left; (repeat (first | (with_reducible exact Outs.nil) | ((with_reducible apply Outs.cons); (repeat (first | with_reducible exact Out.here | with_reducible apply Out.there))))))
  all_goals (rfl)
theorem ridx1 (ao : Option Addr) (cap : Nat) (b a : Ak) (s : Int) (e B : Nat) (hb : AkIn b) (ha : AkIn a) (w : World) (hw : Rd w ao [.pointer (some ⟨e, 0, none⟩)] ∧ Rd w (some ⟨e, 0, none⟩) (entC b s) ∧ Rd w (some ⟨B, 0, none⟩) a.cells) : CSpec Try.prog 102 [.slice ao 1 cap, fnv 103 [.pointer (some ⟨B, 0, none⟩)]] [] w (Gives (.int .i64 (if aeq b a = true then 0 else -1))) := by
  obtain ⟨hr, h1, h2⟩ := hw
  refine spec_own0 Try.func102 rfl Try.ntmps102 rfl (l0 := [(0, .slice ao 1 cap), (1, fnv 103 [.pointer (some ⟨B, 0, none⟩)])]) rfl ?_
  repeat' first
    | (with_reducible refine J.rounds 2 ?_)
    | (with_reducible apply J.round)
    | (refine J.qr ?_; (with_reducible apply exq); focus (first
      | ((with_reducible apply Qr.indexRd (k := 0) (C := [.pointer (some ⟨e, 0, none⟩)])); exact rfl; exact rfl; exact rfl; decide; exact RH.old hr; (simp only [List.length_cons, List.length_nil]; omega))
      | ((with_reducible apply Qr.rd1 (C := [.pointer (some ⟨e, 0, none⟩)]) (j := 0 * 1)); exact rfl; exact RH.old hr; exact rfl)))
    | ((with_reducible apply J.callV (f := 103) (cs := [.pointer (some ⟨B, 0, none⟩)])); exact rfl; exact rfl; exact rfl; exact fun w2 s2 => rcl_ b a s e B hb ha w2 ⟨RH.old h1 w2 s2, RH.old h2 w2 s2⟩)
    | refine J.one ?_
    | refine J.loudS ?_
    | (refine J.loudQ ?_; intro _ _)
    | (refine J.loudB ?_; intro _)
    | (with_reducible apply J.list)
    | ((with_reducible apply J.gsplit); exact rfl; exact rfl)
    | ((with_reducible first | apply J.cond | apply JC.cond); exact rfl)
    | (intro h; exfalso; (first | (revert h; decide) | (simp at h; done)))
    | (intro h; (try simp only [decide_eq_true_eq, decide_eq_false_iff_not, beq_iff_eq, beq_eq_false_iff_ne, Bool.not_eq_true', Bool.not_eq_false', bne_iff_ne, bne_eq_false_iff_eq, ne_eq, ge_iff_le, gt_iff_lt] at h))
    | (with_reducible apply J.gave')
    | ((with_reducible apply J.kept'); rotate_left; (repeat (first | (with_reducible exact Outs.nil) | ((with_reducible apply Outs.cons); (repeat (first | with_reducible exact Out.here | with_reducible apply Out.there))))))
  all_goals
    first
    | (simp only [retv]; rw [if_pos (by assumption)]; done)
    | (simp only [retv]; rw [if_neg (by assumption)]; done)
    | (simp_all [retv]; done)
    | (trace_state; fail)
theorem cfind0 (p : Nat) (u d : Int) (rt : List UInt8) (r k : Nat) (id : List UInt8) (w : World) : CSpec Try.prog 39 [.pointer (some ⟨p, 0, none⟩), str id] [blk p (cliC u d rt r k (.slice none 0 0) false) 76] w (Keeps (.pointer none) [blk p (cliC u d rt r k (.slice none 0 0) false) 76]) := by
  refine spec_of Try.func39 rfl Try.ntmps39 rfl (l0 := [(0, .pointer (some ⟨p, 0, none⟩)), (1, str id)]) rfl ?_
  intro fp
  repeat' first
    | (refine J.qv ?_; (with_reducible apply exq); focus (first
      | ((with_reducible apply Qv.makeFn); exact rfl)))
    | (refine J.qr ?_; (with_reducible apply exq); focus (first
      | ((with_reducible apply Qr.load1); exact rfl; (focus ((repeat (first | with_reducible exact In.here | with_reducible apply In.there)); done)); exact rfl)))
    | ((with_reducible apply J.givesR (cidx0 _)); exact rfl; exact rfl; focus (exact RH.true_))
    | refine J.one ?_
    | refine J.loudS ?_
    | (refine J.loudQ ?_; intro _ _)
    | (refine J.loudB ?_; intro _)
    | (with_reducible apply J.list)
    | ((with_reducible apply J.gsplit); exact rfl; exact rfl)
    | ((with_reducible first | apply J.cond | apply JC.cond); exact rfl)
    | (intro h; exfalso; (simp at h; done))
    | (intro h; (try simp only [decide_eq_true_eq, decide_eq_false_iff_not, beq_iff_eq, beq_eq_false_iff_ne, Bool.not_eq_true', Bool.not_eq_false', bne_iff_ne, bne_eq_false_iff_eq, ne_eq, ge_iff_le, gt_iff_lt] at h))
    | (with_reducible apply J.gave')
    | ((with_reducible apply J.kept'); rotate_left; (repeat (first | (with_reducible exact Outs.nil) | ((with_reducible apply Outs.cons); (repeat (first | with_reducible exact Out.here | with_reducible apply Out.there))))))
  all_goals (rfl)
theorem rfind0 (r : Nat) (a : Ak) (w : World) (hw : Rd w (some ⟨r, 0, none⟩) (roomC (.slice none 0 0))) : CSpec Try.prog 69 [.pointer (some ⟨r, 0, none⟩), .agg a.cells.toArray] [] w (Gives (.pointer none)) := by
  have hR := hw
  refine spec_own0 Try.func69 rfl Try.ntmps69 rfl (l0 := [(0, .pointer (some ⟨r, 0, none⟩)), (1, .agg a.cells.toArray)]) rfl ?_
  repeat' first
    | (refine J.qv ?_; (with_reducible apply exq); focus (first
      | ((with_reducible apply Qv.makeFn); exact rfl)))
    | (refine J.qr ?_; (with_reducible apply exq); focus (first
      | ((with_reducible apply Qr.rd1 (ao := some ⟨r, 0, none⟩) (C := roomC (.slice none 0 0)) (j := 1)); exact rfl; exact RH.old hR; exact rfl)))
    | ((with_reducible apply J.givesR (ridx0 _)); exact rfl; exact rfl; focus (exact RH.true_))
    | refine J.one ?_
    | refine J.loudS ?_
    | (refine J.loudQ ?_; intro _ _)
    | (refine J.loudB ?_; intro _)
    | (with_reducible apply J.list)
    | ((with_reducible apply J.gsplit); exact rfl; exact rfl)
    | ((with_reducible first | apply J.cond | apply JC.cond); exact rfl)
    | (intro h; exfalso; (simp at h; done))
    | (intro h; (try simp only [decide_eq_true_eq, decide_eq_false_iff_not, beq_iff_eq, beq_eq_false_iff_ne, Bool.not_eq_true', Bool.not_eq_false', bne_iff_ne, bne_eq_false_iff_eq, ne_eq, ge_iff_le, gt_iff_lt] at h))
    | (with_reducible apply J.gave')
    | ((with_reducible apply J.kept'); rotate_left; (repeat (first | (with_reducible exact Outs.nil) | ((with_reducible apply Outs.cons); (repeat (first | with_reducible exact Out.here | with_reducible apply Out.there))))))
  all_goals (rfl)
theorem ridx1y (ao : Option Addr) (cap : Nat) (b a : Ak) (s : Int) (e B : Nat) (hb : AkIn b) (ha : AkIn a) (h9 : aeq b a = true) (w : World) (hw : Rd w ao [.pointer (some ⟨e, 0, none⟩)] ∧ Rd w (some ⟨e, 0, none⟩) (entC b s) ∧ Rd w (some ⟨B, 0, none⟩) a.cells) : CSpec Try.prog 102 [.slice ao 1 cap, fnv 103 [.pointer (some ⟨B, 0, none⟩)]] [] w (Gives (.int .i64 (0))) := by
  have h := ridx1 ao cap b a s e B hb ha w hw
  rw [h9] at h
  exact h
theorem rfind1y (r : Nat) (ao : Option Addr) (cap : Nat) (b a : Ak) (s : Int) (e : Nat) (hb : AkIn b) (ha : AkIn a) (h9 : aeq b a = true) (w : World) (hw : Rd w (some ⟨r, 0, none⟩) (roomC (.slice ao 1 cap)) ∧ Rd w ao [.pointer (some ⟨e, 0, none⟩)] ∧ Rd w (some ⟨e, 0, none⟩) (entC b s)) : CSpec Try.prog 69 [.pointer (some ⟨r, 0, none⟩), .agg a.cells.toArray] [] w (Gives (.pointer (some ⟨e, 0, none⟩))) := by
  obtain ⟨hR, hr, h1⟩ := hw
  refine spec_own0 Try.func69 rfl Try.ntmps69 rfl (l0 := [(0, .pointer (some ⟨r, 0, none⟩)), (1, .agg a.cells.toArray)]) rfl ?_
  repeat' first
    | (refine J.qv ?_; (with_reducible apply exq); focus (first
      | ((with_reducible apply Qv.makeFn); exact rfl)))
    | (refine J.qr ?_; (with_reducible apply exq); focus (first
      | ((with_reducible apply Qr.rd1 (ao := some ⟨r, 0, none⟩) (C := roomC (.slice ao 1 cap)) (j := 1)); exact rfl; exact RH.old hR; exact rfl)
      | ((with_reducible apply Qr.indexRd (k := 0) (C := [.pointer (some ⟨e, 0, none⟩)])); exact rfl; exact rfl; exact rfl; decide; exact RH.old hr; (simp only [List.length_cons, List.length_nil]; omega))
      | ((with_reducible apply Qr.rd1 (C := [.pointer (some ⟨e, 0, none⟩)]) (j := 0 * 1)); exact rfl; exact RH.old hr; exact rfl)))
    | ((with_reducible apply J.givesR (ridx1y ao cap b a s e _ hb ha h9)); exact rfl; exact rfl; focus (exact fun w2 s2 => ⟨RH.old hr w2 s2, RH.old h1 w2 s2, RH.blk0 (by (repeat (first | with_reducible exact In.here | with_reducible apply In.there))) w2 s2⟩))
    | refine J.one ?_
    | refine J.loudS ?_
    | (refine J.loudQ ?_; intro _ _)
    | (refine J.loudB ?_; intro _)
    | (with_reducible apply J.list)
    | ((with_reducible apply J.gsplit); exact rfl; exact rfl)
    | ((with_reducible first | apply J.cond | apply JC.cond); exact rfl)
    | (intro h; exfalso; (first | (simp at h; done) | (revert h; decide)))
    | (intro h; (try simp only [decide_eq_true_eq, decide_eq_false_iff_not, beq_iff_eq, beq_eq_false_iff_ne, Bool.not_eq_true', Bool.not_eq_false', bne_iff_ne, bne_eq_false_iff_eq, ne_eq, ge_iff_le, gt_iff_lt] at h))
    | (with_reducible apply J.gave')
    | ((with_reducible apply J.kept'); rotate_left; (repeat (first | (with_reducible exact Outs.nil) | ((with_reducible apply Outs.cons); (repeat (first | with_reducible exact Out.here | with_reducible apply Out.there))))))
  all_goals (rfl)
theorem ridx1n (ao : Option Addr) (cap : Nat) (b a : Ak) (s : Int) (e B : Nat) (hb : AkIn b) (ha : AkIn a) (h9 : aeq b a = false) (w : World) (hw : Rd w ao [.pointer (some ⟨e, 0, none⟩)] ∧ Rd w (some ⟨e, 0, none⟩) (entC b s) ∧ Rd w (some ⟨B, 0, none⟩) a.cells) : CSpec Try.prog 102 [.slice ao 1 cap, fnv 103 [.pointer (some ⟨B, 0, none⟩)]] [] w (Gives (.int .i64 (-1))) := by
  have h := ridx1 ao cap b a s e B hb ha w hw
  rw [h9] at h
  exact h
theorem rfind1n (r : Nat) (ao : Option Addr) (cap : Nat) (b a : Ak) (s : Int) (e : Nat) (hb : AkIn b) (ha : AkIn a) (h9 : aeq b a = false) (w : World) (hw : Rd w (some ⟨r, 0, none⟩) (roomC (.slice ao 1 cap)) ∧ Rd w ao [.pointer (some ⟨e, 0, none⟩)] ∧ Rd w (some ⟨e, 0, none⟩) (entC b s)) : CSpec Try.prog 69 [.pointer (some ⟨r, 0, none⟩), .agg a.cells.toArray] [] w (Gives (.pointer none)) := by
  obtain ⟨hR, hr, h1⟩ := hw
  refine spec_own0 Try.func69 rfl Try.ntmps69 rfl (l0 := [(0, .pointer (some ⟨r, 0, none⟩)), (1, .agg a.cells.toArray)]) rfl ?_
  repeat' first
    | (refine J.qv ?_; (with_reducible apply exq); focus (first
      | ((with_reducible apply Qv.makeFn); exact rfl)))
    | (refine J.qr ?_; (with_reducible apply exq); focus (first
      | ((with_reducible apply Qr.rd1 (ao := some ⟨r, 0, none⟩) (C := roomC (.slice ao 1 cap)) (j := 1)); exact rfl; exact RH.old hR; exact rfl)
      | ((with_reducible apply Qr.indexRd (k := 0) (C := [.pointer (some ⟨e, 0, none⟩)])); exact rfl; exact rfl; exact rfl; decide; exact RH.old hr; (simp only [List.length_cons, List.length_nil]; omega))
      | ((with_reducible apply Qr.rd1 (C := [.pointer (some ⟨e, 0, none⟩)]) (j := 0 * 1)); exact rfl; exact RH.old hr; exact rfl)))
    | ((with_reducible apply J.givesR (ridx1n ao cap b a s e _ hb ha h9)); exact rfl; exact rfl; focus (exact fun w2 s2 => ⟨RH.old hr w2 s2, RH.old h1 w2 s2, RH.blk0 (by (repeat (first | with_reducible exact In.here | with_reducible apply In.there))) w2 s2⟩))
    | refine J.one ?_
    | refine J.loudS ?_
    | (refine J.loudQ ?_; intro _ _)
    | (refine J.loudB ?_; intro _)
    | (with_reducible apply J.list)
    | ((with_reducible apply J.gsplit); exact rfl; exact rfl)
    | ((with_reducible first | apply J.cond | apply JC.cond); exact rfl)
    | (intro h; exfalso; (first | (simp at h; done) | (revert h; decide)))
    | (intro h; (try simp only [decide_eq_true_eq, decide_eq_false_iff_not, beq_iff_eq, beq_eq_false_iff_ne, Bool.not_eq_true', Bool.not_eq_false', bne_iff_ne, bne_eq_false_iff_eq, ne_eq, ge_iff_le, gt_iff_lt] at h))
    | (with_reducible apply J.gave')
    | ((with_reducible apply J.kept'); rotate_left; (repeat (first | (with_reducible exact Outs.nil) | ((with_reducible apply Outs.cons); (repeat (first | with_reducible exact Out.here | with_reducible apply Out.there))))))
  all_goals (rfl)
theorem open_x (r : Nat) (op : Value) (a : Ak) (now : Int) (ha : AkIn a) (x : Int) (hx : askE a = x) (h0 : x ≠ 0) (w : World) (hw : Rd w (some ⟨r, 0, none⟩) (roomC op)) : CSpec Try.prog 40 [.pointer (some ⟨r, 0, none⟩), .agg a.cells.toArray, .int .i64 now] [] w (Gives (.int .i64 x)) := by
  have hR := hw
  have hck := check_ask a ha
  rw [hx] at hck
  refine spec_own0 Try.func40 rfl Try.ntmps40 rfl (l0 := [(0, .pointer (some ⟨r, 0, none⟩)), (1, .agg a.cells.toArray), (2, .int .i64 now)]) rfl ?_
  repeat' first
    | (refine J.qr ?_; (with_reducible apply exq); focus (first
      | ((with_reducible apply Qr.rd1 (ao := some ⟨r, 0, none⟩) (C := roomC (op)) (j := 2)); exact rfl; exact RH.old hR; exact rfl)
      | ((with_reducible apply Qr.loadFull); exact rfl; (focus ((repeat (first | with_reducible exact In.here | with_reducible apply In.there)); done)); (with_reducible exact ak_len _))))
    | (refine J.qo ?_; refine ⟨?_, ?_⟩; focus (first
      | ((with_reducible apply Qr.rd1 (ao := some ⟨r, 0, none⟩) (C := roomC (op)) (j := 2)); exact rfl; exact RH.old hR; exact rfl)
      | ((with_reducible apply Qr.loadFull); exact rfl; (focus ((repeat (first | with_reducible exact In.here | with_reducible apply In.there)); done)); (with_reducible exact ak_len _))))
    | ((with_reducible apply J.givesR (hck)); exact rfl; exact rfl; focus (exact RH.true_))
    | refine J.one ?_
    | refine J.loudS ?_
    | (refine J.loudQ ?_; intro _ _)
    | (refine J.loudB ?_; intro _)
    | (with_reducible apply J.list)
    | ((with_reducible apply J.draw (id := 12) [0, 0, 2, 6, 14, 0, 0, 96, 224, 480, 1022, 2047, 4095, 8191] (.p 0 (.p 1 (.p 2 (.p 3 (.q 4 (.q 5 (.p 6 (.p 7 (.x 8 (.x 9 (.x 10 (.p 11 (.p 12 (.x 13 .nil .none))) .none) .none) .none))))))))) (by kernel_rfl) ?_ (by kernel_rfl) ?_); (repeat (with_reducible first | exact PanicFree.body | exact PanicFree.np | exact PanicFree.lvS | apply PanicFree.then_ | apply PanicFree.blk)))
    | ((with_reducible apply J.pl2); exact rfl; (first | exact Gd.none | ((with_reducible apply Gd.on); exact rfl; exact rfl)); (repeat (first | (with_reducible exact PendF.nil) | ((with_reducible apply PendF.keep); exact rfl) | ((with_reducible apply PendF.gone); exact rfl))))
    | ((with_reducible apply J.pl2_off); exact rfl; ((with_reducible apply Gd.off); exact rfl; exact rfl; exact rfl); exact rfl; (repeat (first | (with_reducible exact PendF.nil) | ((with_reducible apply PendF.keep); exact rfl) | ((with_reducible apply PendF.gone); exact rfl))))
    | ((with_reducible apply J.pl2_off_none); exact rfl; ((with_reducible apply Gd.off); exact rfl; exact rfl; exact rfl); (repeat (first | (with_reducible exact PendF.nil) | ((with_reducible apply PendF.keep); exact rfl) | ((with_reducible apply PendF.gone); exact rfl))))
    | ((with_reducible first | apply J.psplit0 | apply J.psplit1 | apply J.psplit2); exact rfl; exact rfl; exact rfl)
    | (with_reducible exact J.pl_none)
    | ((with_reducible apply J.gsplit); exact rfl; exact rfl)
    | ((with_reducible first | apply J.cond | apply JC.cond); exact rfl)
    | (intro h; exfalso; (first | (simp at h; done) | exact h0 h | (simp [h0] at h; done)))
    | (intro h; (try simp only [decide_eq_true_eq, decide_eq_false_iff_not, beq_iff_eq, beq_eq_false_iff_ne, Bool.not_eq_true', Bool.not_eq_false', bne_iff_ne, bne_eq_false_iff_eq, ne_eq, ge_iff_le, gt_iff_lt] at h))
    | (with_reducible apply J.gave')
    | ((with_reducible apply J.kept'); rotate_left; (repeat (first | (with_reducible exact Outs.nil) | ((with_reducible apply Outs.cons); (repeat (first | with_reducible exact Out.here | with_reducible apply Out.there))))))
  all_goals (rfl)
theorem open_1y (r : Nat) (ao : Option Addr) (cap : Nat) (b a : Ak) (s : Int) (e : Nat) (hb : AkIn b) (ha : AkIn a) (h9 : aeq b a = true) (now : Int) (hx : askE a = 0) (w : World) (hw : Rd w (some ⟨r, 0, none⟩) (roomC (.slice ao 1 cap)) ∧ Rd w ao [.pointer (some ⟨e, 0, none⟩)] ∧ Rd w (some ⟨e, 0, none⟩) (entC b s)) : CSpec Try.prog 40 [.pointer (some ⟨r, 0, none⟩), .agg a.cells.toArray, .int .i64 now] [] w (Gives (.int .i64 32)) := by
  obtain ⟨hR, hr, h1⟩ := hw
  have hck := check_ask a ha
  rw [hx] at hck
  refine spec_own0 Try.func40 rfl Try.ntmps40 rfl (l0 := [(0, .pointer (some ⟨r, 0, none⟩)), (1, .agg a.cells.toArray), (2, .int .i64 now)]) rfl ?_
  repeat' first
    | (refine J.qr ?_; (with_reducible apply exq); focus (first
      | ((with_reducible apply Qr.rd1 (ao := some ⟨r, 0, none⟩) (C := roomC (.slice ao 1 cap)) (j := 2)); exact rfl; exact RH.old hR; exact rfl)
      | ((with_reducible apply Qr.loadFull); exact rfl; (focus ((repeat (first | with_reducible exact In.here | with_reducible apply In.there)); done)); (with_reducible exact ak_len _))))
    | (refine J.qo ?_; refine ⟨?_, ?_⟩; focus (first
      | ((with_reducible apply Qr.rd1 (ao := some ⟨r, 0, none⟩) (C := roomC (.slice ao 1 cap)) (j := 2)); exact rfl; exact RH.old hR; exact rfl)
      | ((with_reducible apply Qr.loadFull); exact rfl; (focus ((repeat (first | with_reducible exact In.here | with_reducible apply In.there)); done)); (with_reducible exact ak_len _))))
    | ((with_reducible apply J.givesR (hck)); exact rfl; exact rfl; focus (exact RH.true_))
    | ((with_reducible apply J.givesR (rfind1y r ao cap b a s e hb ha h9)); exact rfl; exact rfl; focus (exact fun w2 s2 => ⟨RH.old hR w2 s2, RH.old hr w2 s2, RH.old h1 w2 s2⟩))
    | refine J.one ?_
    | refine J.loudS ?_
    | (refine J.loudQ ?_; intro _ _)
    | (refine J.loudB ?_; intro _)
    | (with_reducible apply J.list)
    | ((with_reducible apply J.draw (id := 12) [0, 0, 2, 6, 14, 0, 0, 96, 224, 480, 1022, 2047, 4095, 8191] (.p 0 (.p 1 (.p 2 (.p 3 (.q 4 (.q 5 (.p 6 (.p 7 (.x 8 (.x 9 (.x 10 (.p 11 (.p 12 (.x 13 .nil .none))) .none) .none) .none))))))))) (by kernel_rfl) ?_ (by kernel_rfl) ?_); (repeat (with_reducible first | exact PanicFree.body | exact PanicFree.np | exact PanicFree.lvS | apply PanicFree.then_ | apply PanicFree.blk)))
    | ((with_reducible apply J.pl2); exact rfl; (first | exact Gd.none | ((with_reducible apply Gd.on); exact rfl; exact rfl)); (repeat (first | (with_reducible exact PendF.nil) | ((with_reducible apply PendF.keep); exact rfl) | ((with_reducible apply PendF.gone); exact rfl))))
    | ((with_reducible apply J.pl2_off); exact rfl; ((with_reducible apply Gd.off); exact rfl; exact rfl; exact rfl); exact rfl; (repeat (first | (with_reducible exact PendF.nil) | ((with_reducible apply PendF.keep); exact rfl) | ((with_reducible apply PendF.gone); exact rfl))))
    | ((with_reducible apply J.pl2_off_none); exact rfl; ((with_reducible apply Gd.off); exact rfl; exact rfl; exact rfl); (repeat (first | (with_reducible exact PendF.nil) | ((with_reducible apply PendF.keep); exact rfl) | ((with_reducible apply PendF.gone); exact rfl))))
    | ((with_reducible first | apply J.psplit0 | apply J.psplit1 | apply J.psplit2); exact rfl; exact rfl; exact rfl)
    | (with_reducible exact J.pl_none)
    | ((with_reducible apply J.gsplit); exact rfl; exact rfl)
    | ((with_reducible first | apply J.cond | apply JC.cond); exact rfl)
    | (intro h; exfalso; (first | (simp at h; done) | (simp at h; omega) | omega | (revert h; decide)))
    | (intro h; (try simp only [decide_eq_true_eq, decide_eq_false_iff_not, beq_iff_eq, beq_eq_false_iff_ne, Bool.not_eq_true', Bool.not_eq_false', bne_iff_ne, bne_eq_false_iff_eq, ne_eq, ge_iff_le, gt_iff_lt] at h))
    | (with_reducible apply J.gave')
    | ((with_reducible apply J.kept'); rotate_left; (repeat (first | (with_reducible exact Outs.nil) | ((with_reducible apply Outs.cons); (repeat (first | with_reducible exact Out.here | with_reducible apply Out.there))))))
  all_goals (rfl)
end Go.Proofs.Ytfcaeifpclpnoaa.Cask
namespace Go.Proofs.Ytfcaeifpclpnoaa.Caw
open Go Go.RowKit Eng
set_option linter.unusedVariables false
set_option maxRecDepth 100000
set_option linter.unusedSimpArgs false
open Sha Iter Hash Bytes Hsum Ots Rsum Rovr Mrt Mrr Wide Tx Cli Cfe Msg Cas Cask
set_option maxHeartbeats 1000000
/-- One more is open. -/
def Opn (r : Nat) (a : Ak) (now : Int) : Ending → List Asrt → Prop := fun e H => ∃ x : (Option Addr × Nat) × Nat, e = .returned (.int .i64 0) ∧ H = [blk r (roomC (.slice x.1.1 1 x.1.2)) 116, row (.slice x.1.1 1 x.1.2) 139 1 1 [.pointer (some ⟨x.2, 0, none⟩)], blk x.2 (entC a (nowF now)) 143]
theorem nowF_y {n : Int} (h : n < 0) : nowF n = 0 := if_pos (.inl h)
theorem nowF_z {n : Int} (h : 1099511627776 < n) : nowF n = 0 := if_pos (.inr h)
theorem nowF_n {n : Int} (h : ¬ n < 0) (h2 : ¬ 1099511627776 < n) : nowF n = n := if_neg (by omega)
section
variable {P : Program} {c : Cx} {l : TL} {H R : List Asrt} {Q : Exit → Act → World → Prop} {X : Act → World → Prop}
variable {ty : TypeId} {pos : String} {af : Array Edge} {d : Nat}
theorem J.opnE {f : Nat} [i : Eng.Enters P f] {xs : List Operand} {ts : Array TypeId} {vs : List Value} {r : Nat} {a : Ak} {now : Int} (hS : ∀ w, CSpec P f vs [blk r (roomC (.slice none 0 0)) 116] w (Opn r a now)) (hd : Nat.blt d c.n = true) (hx : evs l xs = some vs) (ho : Outs [blk r (roomC (.slice none 0 0)) 116] H R)
    (K : ∀ (q : Option Addr × Nat) (e : Nat), J c ((d, .int .i64 0) :: l) (blk r (roomC (.slice q.1 1 q.2)) 116 :: row (.slice q.1 1 q.2) 139 1 1 [.pointer (some ⟨e, 0, none⟩)] :: blk e (entC a (nowF now)) 143 :: R) X) : J c l H (OW P Q ⟨some d, .call ⟨.value (.func f), xs.toArray, ts⟩, ty, pos, af, none⟩ X) :=
  J.callS hd hx ho (fun w s => hS w) (fun v' H3 ⟨x, h1, h2⟩ => by
    cases h1; subst h2
    exact K x.1 x.2) (fun ch H3 ⟨b, h1, _⟩ => by cases h1) (fun H3 ⟨b, h1, _⟩ => by cases h1)
theorem J.endOpn {r e : Nat} {a : Ak} {now : Int} {q : Option Addr × Nat} (ho : Outs [blk r (roomC (.slice q.1 1 q.2)) 116, row (.slice q.1 1 q.2) 139 1 1 [.pointer (some ⟨e, 0, none⟩)], blk e (entC a (nowF now)) 143] H R) : J c l H (fun _ w => ∃ H3, Opn r a now (.returned (.int .i64 0)) H3 ∧ Sat c.w0 c.own H3 w) :=
  J.post (R := Opn r a now) ⟨(q, e), rfl, rfl⟩ ho
end
theorem open_0 (r : Nat) (a : Ak) (now : Int) (ha : AkIn a) (hx : askE a = 0) (w : World) : CSpec Try.prog 40 [.pointer (some ⟨r, 0, none⟩), .agg a.cells.toArray, .int .i64 now] [blk r (roomC (.slice none 0 0)) 116] w (Opn r a now) := by
  have hck := check_ask a ha
  rw [hx] at hck
  refine spec_of Try.func40 rfl Try.ntmps40 rfl (l0 := [(0, .pointer (some ⟨r, 0, none⟩)), (1, .agg a.cells.toArray), (2, .int .i64 now)]) rfl ?_
  intro fp
  refine J.nilRow 139 1 ?_
  repeat' first
    | (refine J.qv ?_; (with_reducible apply exq); focus (first
      | ((with_reducible apply Qv.buildS (T := 143)); exact rfl; exact (show _ = some (entC a 0) from rfl))
      | ((with_reducible apply Qv.buildS (T := 143)); exact rfl; exact (show _ = some (entC a now) from rfl))))
    | (refine J.qr ?_; (with_reducible apply exq); focus (first
      | ((with_reducible apply Qr.load1); exact rfl; (focus ((repeat (first | with_reducible exact In.here | with_reducible apply In.there)); done)); exact rfl)
      | ((with_reducible apply Qr.loadFull); exact rfl; (focus ((repeat (first | with_reducible exact In.here | with_reducible apply In.there)); done)); (with_reducible first | exact ak_len _ | exact mg_len _))))
    | (refine J.qo ?_; refine ⟨?_, ?_⟩; focus (first
      | ((with_reducible apply Qr.load1); exact rfl; (focus ((repeat (first | with_reducible exact In.here | with_reducible apply In.there)); done)); exact rfl)
      | ((with_reducible apply Qr.loadFull); exact rfl; (focus ((repeat (first | with_reducible exact In.here | with_reducible apply In.there)); done)); (with_reducible first | exact ak_len _ | exact mg_len _))))
    | ((with_reducible apply J.appendR (news := [_])); exact rfl; exact rfl; (repeat (first | with_reducible exact Out.here | with_reducible apply Out.there)); exact rfl; exact RH.blk0 (by (repeat (first | with_reducible exact In.here | with_reducible apply In.there))); exact rfl; exact rfl; exact rfl; exact rfl; (simp only [maxLen]; omega); omega; intro q8 _)
    | ((with_reducible apply J.givesR (hck)); exact rfl; exact rfl; focus (exact RH.true_))
    | ((with_reducible apply J.givesR (rfind0 r a)); exact rfl; exact rfl; focus (exact RH.blk0 (by (repeat (first | with_reducible exact In.here | with_reducible apply In.there)))))
    | refine J.one ?_
    | refine J.loudS ?_
    | (refine J.loudQ ?_; intro _ _)
    | (refine J.loudB ?_; intro _)
    | (with_reducible apply J.list)
    | ((with_reducible apply J.draw (id := 12) [0, 0, 2, 6, 14, 0, 0, 96, 224, 480, 1022, 2047, 4095, 8191] (.p 0 (.p 1 (.p 2 (.p 3 (.q 4 (.q 5 (.p 6 (.p 7 (.x 8 (.x 9 (.x 10 (.p 11 (.p 12 (.x 13 .nil .none))) .none) .none) .none))))))))) (by kernel_rfl) ?_ (by kernel_rfl) ?_); (repeat (with_reducible first | exact PanicFree.body | exact PanicFree.np | exact PanicFree.lvS | apply PanicFree.then_ | apply PanicFree.blk)))
    | ((with_reducible apply J.pl2); exact rfl; (first | exact Gd.none | ((with_reducible apply Gd.on); exact rfl; exact rfl)); (repeat (first | (with_reducible exact PendF.nil) | ((with_reducible apply PendF.keep); exact rfl) | ((with_reducible apply PendF.gone); exact rfl))))
    | ((with_reducible apply J.pl2_off); exact rfl; ((with_reducible apply Gd.off); exact rfl; exact rfl; exact rfl); exact rfl; (repeat (first | (with_reducible exact PendF.nil) | ((with_reducible apply PendF.keep); exact rfl) | ((with_reducible apply PendF.gone); exact rfl))))
    | ((with_reducible apply J.pl2_off_none); exact rfl; ((with_reducible apply Gd.off); exact rfl; exact rfl; exact rfl); (repeat (first | (with_reducible exact PendF.nil) | ((with_reducible apply PendF.keep); exact rfl) | ((with_reducible apply PendF.gone); exact rfl))))
    | ((with_reducible first | apply J.psplit0 | apply J.psplit1 | apply J.psplit2); exact rfl; exact rfl; exact rfl)
    | (with_reducible exact J.pl_none)
    | ((with_reducible apply J.gsplit); exact rfl; exact rfl)
    | ((with_reducible first | apply J.cond | apply JC.cond); exact rfl)
    | (intro h; exfalso; (first | (simp at h; done) | (simp at h; omega) | omega | (revert h; decide)))
    | (intro h; (try simp only [decide_eq_true_eq, decide_eq_false_iff_not, beq_iff_eq, beq_eq_false_iff_ne, Bool.not_eq_true', Bool.not_eq_false', bne_iff_ne, bne_eq_false_iff_eq, ne_eq, ge_iff_le, gt_iff_lt] at h))
    | (with_reducible apply J.gave')
    | ((with_reducible apply J.kept'); rotate_left; (repeat (first | (with_reducible exact Outs.nil) | ((with_reducible apply Outs.cons); (repeat (first | with_reducible exact Out.here | with_reducible apply Out.there))))))
  all_goals first
    | (have e0 : nowF now = 0 := nowF_y (by assumption)
       apply J.reB (b := r) (C' := roomC (.slice q8.1 1 q8.2))
       · (repeat (first | with_reducible exact Upd.here | with_reducible apply Upd.there))
       · rfl
       apply J.reR (E := 139) (v := .slice q8.1 (0 + 1) q8.2) (n := 0 + 1) (v' := .slice q8.1 1 q8.2) (n' := 1)
       · (repeat (first | with_reducible exact Upd.here | with_reducible apply Upd.there))
       · rfl
       · rfl
       · exact List.nil_append _
       apply J.endOpn
       rw [e0]
       (repeat (first | (with_reducible exact Outs.nil) | ((with_reducible apply Outs.cons); (repeat (first | with_reducible exact Out.here | with_reducible apply Out.there))))))
    | (have e0 : nowF now = 0 := nowF_z (by assumption)
       apply J.reB (b := r) (C' := roomC (.slice q8.1 1 q8.2))
       · (repeat (first | with_reducible exact Upd.here | with_reducible apply Upd.there))
       · rfl
       apply J.reR (E := 139) (v := .slice q8.1 (0 + 1) q8.2) (n := 0 + 1) (v' := .slice q8.1 1 q8.2) (n' := 1)
       · (repeat (first | with_reducible exact Upd.here | with_reducible apply Upd.there))
       · rfl
       · rfl
       · exact List.nil_append _
       apply J.endOpn
       rw [e0]
       (repeat (first | (with_reducible exact Outs.nil) | ((with_reducible apply Outs.cons); (repeat (first | with_reducible exact Out.here | with_reducible apply Out.there))))))
    | (have e0 : nowF now = now := nowF_n (by assumption) (by assumption)
       apply J.reB (b := r) (C' := roomC (.slice q8.1 1 q8.2))
       · (repeat (first | with_reducible exact Upd.here | with_reducible apply Upd.there))
       · rfl
       apply J.reR (E := 139) (v := .slice q8.1 (0 + 1) q8.2) (n := 0 + 1) (v' := .slice q8.1 1 q8.2) (n' := 1)
       · (repeat (first | with_reducible exact Upd.here | with_reducible apply Upd.there))
       · rfl
       · rfl
       · exact List.nil_append _
       apply J.endOpn
       rw [e0]
       (repeat (first | (with_reducible exact Outs.nil) | ((with_reducible apply Outs.cons); (repeat (first | with_reducible exact Out.here | with_reducible apply Out.there))))))
    | (trace_state; fail)
theorem open_1n (r : Nat) (ao : Option Addr) (cap : Nat) (b a : Ak) (s : Int) (e : Nat) (hb : AkIn b) (ha : AkIn a) (h9 : aeq b a = false) (now : Int) (hx : askE a = 0) (w : World) : CSpec Try.prog 40 [.pointer (some ⟨r, 0, none⟩), .agg a.cells.toArray, .int .i64 now] [blk r (roomC (.slice ao 1 cap)) 116, row (.slice ao 1 cap) 139 1 1 [.pointer (some ⟨e, 0, none⟩)], blk e (entC b s) 143] w (Gives (.int .i64 0)) := by
  have hck := check_ask a ha
  rw [hx] at hck
  refine spec_of Try.func40 rfl Try.ntmps40 rfl (l0 := [(0, .pointer (some ⟨r, 0, none⟩)), (1, .agg a.cells.toArray), (2, .int .i64 now)]) rfl ?_
  intro fp
  repeat' first
    | (refine J.qv ?_; (with_reducible apply exq); focus (first
      | ((with_reducible apply Qv.buildS (T := 143)); exact rfl; exact (show _ = some (entC a 0) from rfl))
      | ((with_reducible apply Qv.buildS (T := 143)); exact rfl; exact (show _ = some (entC a now) from rfl))))
    | (refine J.qr ?_; (with_reducible apply exq); focus (first
      | ((with_reducible apply Qr.load1); exact rfl; (focus ((repeat (first | with_reducible exact In.here | with_reducible apply In.there)); done)); exact rfl)
      | ((with_reducible apply Qr.loadFull); exact rfl; (focus ((repeat (first | with_reducible exact In.here | with_reducible apply In.there)); done)); (with_reducible first | exact ak_len _ | exact mg_len _))))
    | (refine J.qo ?_; refine ⟨?_, ?_⟩; focus (first
      | ((with_reducible apply Qr.load1); exact rfl; (focus ((repeat (first | with_reducible exact In.here | with_reducible apply In.there)); done)); exact rfl)
      | ((with_reducible apply Qr.loadFull); exact rfl; (focus ((repeat (first | with_reducible exact In.here | with_reducible apply In.there)); done)); (with_reducible first | exact ak_len _ | exact mg_len _))))
    | ((with_reducible apply J.appendR (news := [_])); exact rfl; exact rfl; (repeat (first | with_reducible exact Out.here | with_reducible apply Out.there)); exact rfl; exact RH.blk0 (by (repeat (first | with_reducible exact In.here | with_reducible apply In.there))); exact rfl; exact rfl; exact rfl; exact rfl; (simp only [maxLen]; omega); omega; intro q8 _)
    | ((with_reducible apply J.store1); exact rfl; exact rfl; exact rfl; (repeat (first | with_reducible exact Upd.here | with_reducible apply Upd.there)); exact (show _ = roomC (.slice q8.1 (1 + 1) q8.2) from rfl); (first | (show 1 < 3; decide) | (show 1 + 1 ≤ 3; decide)))
    | ((with_reducible apply J.givesR (hck)); exact rfl; exact rfl; focus (exact RH.true_))
    | ((with_reducible apply J.givesR (rfind1n r ao cap b a s e hb ha h9)); exact rfl; exact rfl; focus (exact fun w2 s2 => ⟨RH.blk0 (by (repeat (first | with_reducible exact In.here | with_reducible apply In.there))) w2 s2, RH.row (by (repeat (first | with_reducible exact In.here | with_reducible apply In.there))) w2 s2, RH.blk0 (by (repeat (first | with_reducible exact In.here | with_reducible apply In.there))) w2 s2⟩))
    | refine J.one ?_
    | refine J.loudS ?_
    | (refine J.loudQ ?_; intro _ _)
    | (refine J.loudB ?_; intro _)
    | (with_reducible apply J.list)
    | ((with_reducible apply J.draw (id := 12) [0, 0, 2, 6, 14, 0, 0, 96, 224, 480, 1022, 2047, 4095, 8191] (.p 0 (.p 1 (.p 2 (.p 3 (.q 4 (.q 5 (.p 6 (.p 7 (.x 8 (.x 9 (.x 10 (.p 11 (.p 12 (.x 13 .nil .none))) .none) .none) .none))))))))) (by kernel_rfl) ?_ (by kernel_rfl) ?_); (repeat (with_reducible first | exact PanicFree.body | exact PanicFree.np | exact PanicFree.lvS | apply PanicFree.then_ | apply PanicFree.blk)))
    | ((with_reducible apply J.pl2); exact rfl; (first | exact Gd.none | ((with_reducible apply Gd.on); exact rfl; exact rfl)); (repeat (first | (with_reducible exact PendF.nil) | ((with_reducible apply PendF.keep); exact rfl) | ((with_reducible apply PendF.gone); exact rfl))))
    | ((with_reducible apply J.pl2_off); exact rfl; ((with_reducible apply Gd.off); exact rfl; exact rfl; exact rfl); exact rfl; (repeat (first | (with_reducible exact PendF.nil) | ((with_reducible apply PendF.keep); exact rfl) | ((with_reducible apply PendF.gone); exact rfl))))
    | ((with_reducible apply J.pl2_off_none); exact rfl; ((with_reducible apply Gd.off); exact rfl; exact rfl; exact rfl); (repeat (first | (with_reducible exact PendF.nil) | ((with_reducible apply PendF.keep); exact rfl) | ((with_reducible apply PendF.gone); exact rfl))))
    | ((with_reducible first | apply J.psplit0 | apply J.psplit1 | apply J.psplit2); exact rfl; exact rfl; exact rfl)
    | (with_reducible exact J.pl_none)
    | ((with_reducible apply J.gsplit); exact rfl; exact rfl)
    | ((with_reducible first | apply J.cond | apply JC.cond); exact rfl)
    | (intro h; exfalso; (first | (simp at h; done) | (simp at h; omega) | omega | (revert h; decide)))
    | (intro h; (try simp only [decide_eq_true_eq, decide_eq_false_iff_not, beq_iff_eq, beq_eq_false_iff_ne, Bool.not_eq_true', Bool.not_eq_false', bne_iff_ne, bne_eq_false_iff_eq, ne_eq, ge_iff_le, gt_iff_lt] at h))
    | (with_reducible apply J.gave')
    | ((with_reducible apply J.kept'); rotate_left; (repeat (first | (with_reducible exact Outs.nil) | ((with_reducible apply Outs.cons); (repeat (first | with_reducible exact Out.here | with_reducible apply Out.there))))))
  all_goals first
    | rfl
    | (trace_state; fail)
end Go.Proofs.Ytfcaeifpclpnoaa.Caw
namespace Go.Proofs.Ytfcaeifpclpnoaa.Cax
open Go Go.RowKit Eng
set_option linter.unusedVariables false
set_option maxRecDepth 100000
set_option linter.unusedSimpArgs false
open Sha Iter Hash Bytes Hsum Ots Rsum Rovr Mrt Mrr Wide Tx Cli Cfe Msg Cas Cask Caw
set_option maxHeartbeats 2000000
theorem ask_u (p : Nat) (u d : Int) (rt : List UInt8) (r k : Nat) (a : Ak) (now : Int) (ha : AkIn a) (hu : ¬ a.us = u) (w : World) : CSpec Try.prog 15 [.pointer (some ⟨p, 0, none⟩), .agg a.cells.toArray, .int .i64 now] [blk p (cliC u d rt r k (.slice none 0 0) false) 76] w (Keeps (.tuple #[.agg mg0.cells.toArray, .int .i64 39]) [blk p (cliC u d rt r k (.slice none 0 0) false) 76]) := by
  refine spec_of Try.func15 rfl Try.ntmps15 rfl (l0 := [(0, .pointer (some ⟨p, 0, none⟩)), (1, .agg a.cells.toArray), (2, .int .i64 now)]) rfl ?_
  intro fp
  repeat' first
    | (refine J.qv ?_; (with_reducible apply exq); focus (first
      | ((with_reducible apply Qv.buildS (T := 47)); exact rfl; exact (show _ = some (mg0.cells) from rfl))
      | ((with_reducible apply Qv.buildS (T := 47)); exact rfl; exact (show _ = some (Mg.cells (mk1 a)) from rfl))))
    | (refine J.qr ?_; (with_reducible apply exq); focus (first
      | ((with_reducible apply Qr.load1); exact rfl; (focus ((repeat (first | with_reducible exact In.here | with_reducible apply In.there)); done)); exact rfl)
      | ((with_reducible apply Qr.loadFull); exact rfl; (focus ((repeat (first | with_reducible exact In.here | with_reducible apply In.there)); done)); (with_reducible first | exact ak_len _ | exact mg_len _))))
    | (refine J.qo ?_; refine ⟨?_, ?_⟩; focus (first
      | ((with_reducible apply Qr.load1); exact rfl; (focus ((repeat (first | with_reducible exact In.here | with_reducible apply In.there)); done)); exact rfl)
      | ((with_reducible apply Qr.loadFull); exact rfl; (focus ((repeat (first | with_reducible exact In.here | with_reducible apply In.there)); done)); (with_reducible first | exact ak_len _ | exact mg_len _))))
    | ((with_reducible apply J.storeFull); exact rfl; exact rfl; (repeat (first | with_reducible exact Upd.here | with_reducible apply Upd.there)); (with_reducible exact mg_len _); (focus (first | (with_reducible exact mg_len _) | kernel_rfl)); with_reducible exact mg_ones _)
    | ((with_reducible apply J.keepsW (up0_ _ _ _ _ _ _ _)); exact rfl; exact rfl; (repeat (first | (with_reducible exact Outs.nil) | ((with_reducible apply Outs.cons); (repeat (first | with_reducible exact Out.here | with_reducible apply Out.there))))))
    | refine J.one ?_
    | refine J.loudS ?_
    | (refine J.loudQ ?_; intro _ _)
    | (refine J.loudB ?_; intro _)
    | (with_reducible apply J.list)
    | ((with_reducible apply J.draw (id := 4) [0, 1, 0, 4, 12, 28, 63] (.p 0 (.q 1 (.p 2 (.p 3 (.p 4 (.q 5 (.p 6 .nil))))))) (by kernel_rfl) ?_ (by kernel_rfl) ?_); (repeat (with_reducible first | exact PanicFree.body | exact PanicFree.np | exact PanicFree.lvS | apply PanicFree.then_ | apply PanicFree.blk)))
    | ((with_reducible apply J.draw (id := 8) [0, 1, 3, 7, 0, 0, 63, 127] (.p 0 (.p 1 (.p 2 (.q 3 (.q 4 (.p 5 (.x 6 (.p 7 .nil) .none))))))) (by kernel_rfl) ?_ (by kernel_rfl) ?_); (repeat (with_reducible first | exact PanicFree.body | exact PanicFree.np | exact PanicFree.lvS | apply PanicFree.then_ | apply PanicFree.blk)))
    | ((with_reducible apply J.pl2); exact rfl; (first | exact Gd.none | ((with_reducible apply Gd.on); exact rfl; exact rfl)); (repeat (first | (with_reducible exact PendF.nil) | ((with_reducible apply PendF.keep); exact rfl) | ((with_reducible apply PendF.gone); exact rfl))))
    | ((with_reducible apply J.pl2_off); exact rfl; ((with_reducible apply Gd.off); exact rfl; exact rfl; exact rfl); exact rfl; (repeat (first | (with_reducible exact PendF.nil) | ((with_reducible apply PendF.keep); exact rfl) | ((with_reducible apply PendF.gone); exact rfl))))
    | ((with_reducible apply J.pl2_off_none); exact rfl; ((with_reducible apply Gd.off); exact rfl; exact rfl; exact rfl); (repeat (first | (with_reducible exact PendF.nil) | ((with_reducible apply PendF.keep); exact rfl) | ((with_reducible apply PendF.gone); exact rfl))))
    | ((with_reducible first | apply J.psplit0 | apply J.psplit1 | apply J.psplit2); exact rfl; exact rfl; exact rfl)
    | (with_reducible exact J.pl_none)
    | ((with_reducible apply J.gsplit); exact rfl; exact rfl)
    | ((with_reducible first | apply J.cond | apply JC.cond); exact rfl)
    | (intro h; exfalso; (first | (simp at h; done) | (simp at h; omega) | omega))
    | (intro h; (try simp only [decide_eq_true_eq, decide_eq_false_iff_not, beq_iff_eq, beq_eq_false_iff_ne, Bool.not_eq_true', Bool.not_eq_false', bne_iff_ne, bne_eq_false_iff_eq, ne_eq, ge_iff_le, gt_iff_lt] at h))
    | (with_reducible apply J.gave')
    | ((with_reducible apply J.kept'); rotate_left; (repeat (first | (with_reducible exact Outs.nil) | ((with_reducible apply Outs.cons); (repeat (first | with_reducible exact Out.here | with_reducible apply Out.there))))))
  all_goals (rfl)
theorem ask_e (p : Nat) (u d : Int) (rt : List UInt8) (r k : Nat) (op : Value) (a : Ak) (now : Int) (ha : AkIn a) (hu : a.us = u) (hx : askE a = 39) (w : World) : CSpec Try.prog 15 [.pointer (some ⟨p, 0, none⟩), .agg a.cells.toArray, .int .i64 now] [blk p (cliC u d rt r k (.slice none 0 0) false) 76, blk r (roomC (op)) 116] w (Keeps (.tuple #[.agg mg0.cells.toArray, .int .i64 39]) [blk p (cliC u d rt r k (.slice none 0 0) false) 76, blk r (roomC (op)) 116]) := by
  refine spec_of Try.func15 rfl Try.ntmps15 rfl (l0 := [(0, .pointer (some ⟨p, 0, none⟩)), (1, .agg a.cells.toArray), (2, .int .i64 now)]) rfl ?_
  intro fp
  repeat' first
    | (refine J.qv ?_; (with_reducible apply exq); focus (first
      | ((with_reducible apply Qv.buildS (T := 47)); exact rfl; exact (show _ = some (mg0.cells) from rfl))
      | ((with_reducible apply Qv.buildS (T := 47)); exact rfl; exact (show _ = some (Mg.cells (mk1 a)) from rfl))))
    | (refine J.qr ?_; (with_reducible apply exq); focus (first
      | ((with_reducible apply Qr.load1); exact rfl; (focus ((repeat (first | with_reducible exact In.here | with_reducible apply In.there)); done)); exact rfl)
      | ((with_reducible apply Qr.loadFull); exact rfl; (focus ((repeat (first | with_reducible exact In.here | with_reducible apply In.there)); done)); (with_reducible first | exact ak_len _ | exact mg_len _))))
    | (refine J.qo ?_; refine ⟨?_, ?_⟩; focus (first
      | ((with_reducible apply Qr.load1); exact rfl; (focus ((repeat (first | with_reducible exact In.here | with_reducible apply In.there)); done)); exact rfl)
      | ((with_reducible apply Qr.loadFull); exact rfl; (focus ((repeat (first | with_reducible exact In.here | with_reducible apply In.there)); done)); (with_reducible first | exact ak_len _ | exact mg_len _))))
    | ((with_reducible apply J.storeFull); exact rfl; exact rfl; (repeat (first | with_reducible exact Upd.here | with_reducible apply Upd.there)); (with_reducible exact mg_len _); (focus (first | (with_reducible exact mg_len _) | kernel_rfl)); with_reducible exact mg_ones _)
    | ((with_reducible apply J.keepsW (up0_ _ _ _ _ _ _ _)); exact rfl; exact rfl; (repeat (first | (with_reducible exact Outs.nil) | ((with_reducible apply Outs.cons); (repeat (first | with_reducible exact Out.here | with_reducible apply Out.there))))))
    | ((with_reducible apply J.keepsW (cfind0 _ _ _ _ _ _ _)); exact rfl; exact rfl; (repeat (first | (with_reducible exact Outs.nil) | ((with_reducible apply Outs.cons); (repeat (first | with_reducible exact Out.here | with_reducible apply Out.there))))))
    | ((with_reducible apply J.givesR (open_x r op a now ha 39 hx (by decide))); exact rfl; exact rfl; focus (exact RH.blk0 (by (repeat (first | with_reducible exact In.here | with_reducible apply In.there)))))
    | refine J.one ?_
    | refine J.loudS ?_
    | (refine J.loudQ ?_; intro _ _)
    | (refine J.loudB ?_; intro _)
    | (with_reducible apply J.list)
    | ((with_reducible apply J.draw (id := 4) [0, 1, 0, 4, 12, 28, 63] (.p 0 (.q 1 (.p 2 (.p 3 (.p 4 (.q 5 (.p 6 .nil))))))) (by kernel_rfl) ?_ (by kernel_rfl) ?_); (repeat (with_reducible first | exact PanicFree.body | exact PanicFree.np | exact PanicFree.lvS | apply PanicFree.then_ | apply PanicFree.blk)))
    | ((with_reducible apply J.draw (id := 8) [0, 1, 3, 7, 0, 0, 63, 127] (.p 0 (.p 1 (.p 2 (.q 3 (.q 4 (.p 5 (.x 6 (.p 7 .nil) .none))))))) (by kernel_rfl) ?_ (by kernel_rfl) ?_); (repeat (with_reducible first | exact PanicFree.body | exact PanicFree.np | exact PanicFree.lvS | apply PanicFree.then_ | apply PanicFree.blk)))
    | ((with_reducible apply J.pl2); exact rfl; (first | exact Gd.none | ((with_reducible apply Gd.on); exact rfl; exact rfl)); (repeat (first | (with_reducible exact PendF.nil) | ((with_reducible apply PendF.keep); exact rfl) | ((with_reducible apply PendF.gone); exact rfl))))
    | ((with_reducible apply J.pl2_off); exact rfl; ((with_reducible apply Gd.off); exact rfl; exact rfl; exact rfl); exact rfl; (repeat (first | (with_reducible exact PendF.nil) | ((with_reducible apply PendF.keep); exact rfl) | ((with_reducible apply PendF.gone); exact rfl))))
    | ((with_reducible apply J.pl2_off_none); exact rfl; ((with_reducible apply Gd.off); exact rfl; exact rfl; exact rfl); (repeat (first | (with_reducible exact PendF.nil) | ((with_reducible apply PendF.keep); exact rfl) | ((with_reducible apply PendF.gone); exact rfl))))
    | ((with_reducible first | apply J.psplit0 | apply J.psplit1 | apply J.psplit2); exact rfl; exact rfl; exact rfl)
    | (with_reducible exact J.pl_none)
    | ((with_reducible apply J.gsplit); exact rfl; exact rfl)
    | ((with_reducible first | apply J.cond | apply JC.cond); exact rfl)
    | (intro h; exfalso; (first | (simp at h; done) | (simp at h; omega) | omega))
    | (intro h; (try simp only [decide_eq_true_eq, decide_eq_false_iff_not, beq_iff_eq, beq_eq_false_iff_ne, Bool.not_eq_true', Bool.not_eq_false', bne_iff_ne, bne_eq_false_iff_eq, ne_eq, ge_iff_le, gt_iff_lt] at h))
    | (with_reducible apply J.gave')
    | ((with_reducible apply J.kept'); rotate_left; (repeat (first | (with_reducible exact Outs.nil) | ((with_reducible apply Outs.cons); (repeat (first | with_reducible exact Out.here | with_reducible apply Out.there))))))
  all_goals (rfl)
theorem ask_1y (p : Nat) (u d : Int) (rt : List UInt8) (r k : Nat) (ao : Option Addr) (cap : Nat) (b : Ak) (s : Int) (e : Nat) (hb : AkIn b) (a : Ak) (now : Int) (ha : AkIn a) (hu : a.us = u) (hx : askE a = 0) (h9 : aeq b a = true) (w : World) : CSpec Try.prog 15 [.pointer (some ⟨p, 0, none⟩), .agg a.cells.toArray, .int .i64 now] [blk p (cliC u d rt r k (.slice none 0 0) false) 76, blk r (roomC (.slice ao 1 cap)) 116, row (.slice ao 1 cap) 139 1 1 [.pointer (some ⟨e, 0, none⟩)], blk e (entC b s) 143] w (Keeps (.tuple #[.agg mg0.cells.toArray, .int .i64 32]) [blk p (cliC u d rt r k (.slice none 0 0) false) 76, blk r (roomC (.slice ao 1 cap)) 116, row (.slice ao 1 cap) 139 1 1 [.pointer (some ⟨e, 0, none⟩)], blk e (entC b s) 143]) := by
  refine spec_of Try.func15 rfl Try.ntmps15 rfl (l0 := [(0, .pointer (some ⟨p, 0, none⟩)), (1, .agg a.cells.toArray), (2, .int .i64 now)]) rfl ?_
  intro fp
  repeat' first
    | (refine J.qv ?_; (with_reducible apply exq); focus (first
      | ((with_reducible apply Qv.buildS (T := 47)); exact rfl; exact (show _ = some (mg0.cells) from rfl))
      | ((with_reducible apply Qv.buildS (T := 47)); exact rfl; exact (show _ = some (Mg.cells (mk1 a)) from rfl))))
    | (refine J.qr ?_; (with_reducible apply exq); focus (first
      | ((with_reducible apply Qr.load1); exact rfl; (focus ((repeat (first | with_reducible exact In.here | with_reducible apply In.there)); done)); exact rfl)
      | ((with_reducible apply Qr.loadFull); exact rfl; (focus ((repeat (first | with_reducible exact In.here | with_reducible apply In.there)); done)); (with_reducible first | exact ak_len _ | exact mg_len _))))
    | (refine J.qo ?_; refine ⟨?_, ?_⟩; focus (first
      | ((with_reducible apply Qr.load1); exact rfl; (focus ((repeat (first | with_reducible exact In.here | with_reducible apply In.there)); done)); exact rfl)
      | ((with_reducible apply Qr.loadFull); exact rfl; (focus ((repeat (first | with_reducible exact In.here | with_reducible apply In.there)); done)); (with_reducible first | exact ak_len _ | exact mg_len _))))
    | ((with_reducible apply J.storeFull); exact rfl; exact rfl; (repeat (first | with_reducible exact Upd.here | with_reducible apply Upd.there)); (with_reducible exact mg_len _); (focus (first | (with_reducible exact mg_len _) | kernel_rfl)); with_reducible exact mg_ones _)
    | ((with_reducible apply J.keepsW (up0_ _ _ _ _ _ _ _)); exact rfl; exact rfl; (repeat (first | (with_reducible exact Outs.nil) | ((with_reducible apply Outs.cons); (repeat (first | with_reducible exact Out.here | with_reducible apply Out.there))))))
    | ((with_reducible apply J.keepsW (cfind0 _ _ _ _ _ _ _)); exact rfl; exact rfl; (repeat (first | (with_reducible exact Outs.nil) | ((with_reducible apply Outs.cons); (repeat (first | with_reducible exact Out.here | with_reducible apply Out.there))))))
    | ((with_reducible apply J.givesR (open_1y r ao cap b a s e hb ha h9 now hx)); exact rfl; exact rfl; focus (exact fun w2 s2 => ⟨RH.blk0 (by (repeat (first | with_reducible exact In.here | with_reducible apply In.there))) w2 s2, RH.row (by (repeat (first | with_reducible exact In.here | with_reducible apply In.there))) w2 s2, RH.blk0 (by (repeat (first | with_reducible exact In.here | with_reducible apply In.there))) w2 s2⟩))
    | refine J.one ?_
    | refine J.loudS ?_
    | (refine J.loudQ ?_; intro _ _)
    | (refine J.loudB ?_; intro _)
    | (with_reducible apply J.list)
    | ((with_reducible apply J.draw (id := 4) [0, 1, 0, 4, 12, 28, 63] (.p 0 (.q 1 (.p 2 (.p 3 (.p 4 (.q 5 (.p 6 .nil))))))) (by kernel_rfl) ?_ (by kernel_rfl) ?_); (repeat (with_reducible first | exact PanicFree.body | exact PanicFree.np | exact PanicFree.lvS | apply PanicFree.then_ | apply PanicFree.blk)))
    | ((with_reducible apply J.draw (id := 8) [0, 1, 3, 7, 0, 0, 63, 127] (.p 0 (.p 1 (.p 2 (.q 3 (.q 4 (.p 5 (.x 6 (.p 7 .nil) .none))))))) (by kernel_rfl) ?_ (by kernel_rfl) ?_); (repeat (with_reducible first | exact PanicFree.body | exact PanicFree.np | exact PanicFree.lvS | apply PanicFree.then_ | apply PanicFree.blk)))
    | ((with_reducible apply J.pl2); exact rfl; (first | exact Gd.none | ((with_reducible apply Gd.on); exact rfl; exact rfl)); (repeat (first | (with_reducible exact PendF.nil) | ((with_reducible apply PendF.keep); exact rfl) | ((with_reducible apply PendF.gone); exact rfl))))
    | ((with_reducible apply J.pl2_off); exact rfl; ((with_reducible apply Gd.off); exact rfl; exact rfl; exact rfl); exact rfl; (repeat (first | (with_reducible exact PendF.nil) | ((with_reducible apply PendF.keep); exact rfl) | ((with_reducible apply PendF.gone); exact rfl))))
    | ((with_reducible apply J.pl2_off_none); exact rfl; ((with_reducible apply Gd.off); exact rfl; exact rfl; exact rfl); (repeat (first | (with_reducible exact PendF.nil) | ((with_reducible apply PendF.keep); exact rfl) | ((with_reducible apply PendF.gone); exact rfl))))
    | ((with_reducible first | apply J.psplit0 | apply J.psplit1 | apply J.psplit2); exact rfl; exact rfl; exact rfl)
    | (with_reducible exact J.pl_none)
    | ((with_reducible apply J.gsplit); exact rfl; exact rfl)
    | ((with_reducible first | apply J.cond | apply JC.cond); exact rfl)
    | (intro h; exfalso; (first | (simp at h; done) | (simp at h; omega) | omega))
    | (intro h; (try simp only [decide_eq_true_eq, decide_eq_false_iff_not, beq_iff_eq, beq_eq_false_iff_ne, Bool.not_eq_true', Bool.not_eq_false', bne_iff_ne, bne_eq_false_iff_eq, ne_eq, ge_iff_le, gt_iff_lt] at h))
    | (with_reducible apply J.gave')
    | ((with_reducible apply J.kept'); rotate_left; (repeat (first | (with_reducible exact Outs.nil) | ((with_reducible apply Outs.cons); (repeat (first | with_reducible exact Out.here | with_reducible apply Out.there))))))
  all_goals (rfl)
/-- What an ask comes to, if nothing was asked. -/
def Ask0 (p : Nat) (u d : Int) (rt : List UInt8) (r k : Nat) (a : Ak) (now : Int) : Ending → List Asrt → Prop := fun e H => (okA u a = true ∧ ∃ x : (Option Addr × Nat) × Nat, e = .returned (.tuple #[.agg (Mg.cells (mk1 a)).toArray, .int .i64 0]) ∧ H = [blk p (cliC u d rt r k (.slice none 0 0) false) 76, blk r (roomC (.slice x.1.1 1 x.1.2)) 116, row (.slice x.1.1 1 x.1.2) 139 1 1 [.pointer (some ⟨x.2, 0, none⟩)], blk x.2 (entC a (nowF now)) 143]) ∨ (okA u a = false ∧ e = .returned (.tuple #[.agg mg0.cells.toArray, .int .i64 39]) ∧ H = [blk p (cliC u d rt r k (.slice none 0 0) false) 76, blk r (roomC (.slice none 0 0)) 116])
/-- If one is open. -/
def Ask1 (u : Int) (b a : Ak) (HH : List Asrt) : Ending → List Asrt → Prop := fun e H => (okA u a = true ∧ aeq b a = false ∧ e = .returned (.tuple #[.agg (Mg.cells (mk1 a)).toArray, .int .i64 0]) ∧ H = []) ∨ (okA u a = true ∧ aeq b a = true ∧ e = .returned (.tuple #[.agg mg0.cells.toArray, .int .i64 32]) ∧ H = HH) ∨ (okA u a = false ∧ e = .returned (.tuple #[.agg mg0.cells.toArray, .int .i64 39]) ∧ H = HH)
section
variable {P : Program} {c : Cx} {l : TL} {H R : List Asrt} {Q : Exit → Act → World → Prop} {X : Act → World → Prop}
variable {ty : TypeId} {pos : String} {af : Array Edge} {dd : Nat}
theorem J.ask0 {f : Nat} [i : Eng.Enters P f] {xs : List Operand} {ts : Array TypeId} {vs : List Value} {p : Nat} {u d : Int} {rt : List UInt8} {r k : Nat} {a : Ak} {now : Int} (hS : ∀ w, CSpec P f vs [blk p (cliC u d rt r k (.slice none 0 0) false) 76, blk r (roomC (.slice none 0 0)) 116] w (Ask0 p u d rt r k a now)) (hd : Nat.blt dd c.n = true) (hx : evs l xs = some vs) (ho : Outs [blk p (cliC u d rt r k (.slice none 0 0) false) 76, blk r (roomC (.slice none 0 0)) 116] H R)
    (K : okA u a = true → ∀ (q : Option Addr × Nat) (e : Nat), J c ((dd, .tuple #[.agg (Mg.cells (mk1 a)).toArray, .int .i64 0]) :: l) (blk p (cliC u d rt r k (.slice none 0 0) false) 76 :: blk r (roomC (.slice q.1 1 q.2)) 116 :: row (.slice q.1 1 q.2) 139 1 1 [.pointer (some ⟨e, 0, none⟩)] :: blk e (entC a (nowF now)) 143 :: R) X)
    (K2 : okA u a = false → J c ((dd, .tuple #[.agg mg0.cells.toArray, .int .i64 39]) :: l) (blk p (cliC u d rt r k (.slice none 0 0) false) 76 :: blk r (roomC (.slice none 0 0)) 116 :: R) X) : J c l H (OW P Q ⟨some dd, .call ⟨.value (.func f), xs.toArray, ts⟩, ty, pos, af, none⟩ X) :=
  J.callS hd hx ho (fun w s => hS w) (fun v' H3 h => by
    rcases h with ⟨h0, x, h1, h2⟩ | ⟨h0, h1, h2⟩
    · cases h1; subst h2; exact K h0 x.1 x.2
    · cases h1; subst h2; exact K2 h0) (fun ch H3 h => by rcases h with ⟨h0, x, h1, h2⟩ | ⟨h0, h1, h2⟩ <;> cases h1) (fun H3 h => by rcases h with ⟨h0, x, h1, h2⟩ | ⟨h0, h1, h2⟩ <;> cases h1)
theorem J.ask1 {f : Nat} [i : Eng.Enters P f] {xs : List Operand} {ts : Array TypeId} {vs : List Value} {u : Int} {b a : Ak} {HH : List Asrt} (hS : ∀ w, CSpec P f vs HH w (Ask1 u b a HH)) (hd : Nat.blt dd c.n = true) (hx : evs l xs = some vs) (ho : Outs HH H R)
    (K : okA u a = true → aeq b a = false → J c ((dd, .tuple #[.agg (Mg.cells (mk1 a)).toArray, .int .i64 0]) :: l) R X)
    (K1 : okA u a = true → aeq b a = true → J c ((dd, .tuple #[.agg mg0.cells.toArray, .int .i64 32]) :: l) (HH ++ R) X)
    (K2 : okA u a = false → J c ((dd, .tuple #[.agg mg0.cells.toArray, .int .i64 39]) :: l) (HH ++ R) X) : J c l H (OW P Q ⟨some dd, .call ⟨.value (.func f), xs.toArray, ts⟩, ty, pos, af, none⟩ X) :=
  J.callS hd hx ho (fun w s => hS w) (fun v' H3 h => by
    rcases h with ⟨h0, h4, h1, h2⟩ | ⟨h0, h4, h1, h2⟩ | ⟨h0, h1, h2⟩
    · cases h1; subst h2; exact K h0 h4
    · cases h1; subst h2; exact K1 h0 h4
    · cases h1; subst h2; exact K2 h0) (fun ch H3 h => by rcases h with ⟨h0, h4, h1, h2⟩ | ⟨h0, h4, h1, h2⟩ | ⟨h0, h1, h2⟩ <;> cases h1) (fun H3 h => by rcases h with ⟨h0, h4, h1, h2⟩ | ⟨h0, h4, h1, h2⟩ | ⟨h0, h1, h2⟩ <;> cases h1)
theorem J.takes {f : Nat} [i : Eng.Enters P f] {xs : List Operand} {ts : Array TypeId} {vs : List Value} {HH : List Asrt} {v : Value} (hS : ∀ w, CSpec P f vs HH w (Gives v)) (hd : Nat.blt dd c.n = true) (hx : evs l xs = some vs) (ho : Outs HH H R) (K : J c ((dd, v) :: l) R X) : J c l H (OW P Q ⟨some dd, .call ⟨.value (.func f), xs.toArray, ts⟩, ty, pos, af, none⟩ X) :=
  J.callS hd hx ho (fun w s => hS w) (fun v' H3 ⟨h1, h2⟩ => by cases h1; subst h2; exact K) (fun ch H3 ⟨h1, _⟩ => by cases h1) (fun H3 ⟨h1, _⟩ => by cases h1)
theorem J.endA0 {p : Nat} {u d : Int} {rt : List UInt8} {r k : Nat} {a : Ak} {now : Int} {q : Option Addr × Nat} {e : Nat} {v : Value} (h0 : okA u a = true) (hv : v = .tuple #[.agg (Mg.cells (mk1 a)).toArray, .int .i64 0]) (ho : Outs [blk p (cliC u d rt r k (.slice none 0 0) false) 76, blk r (roomC (.slice q.1 1 q.2)) 116, row (.slice q.1 1 q.2) 139 1 1 [.pointer (some ⟨e, 0, none⟩)], blk e (entC a (nowF now)) 143] H R) : J c l H (fun _ w => ∃ H3, Ask0 p u d rt r k a now (.returned v) H3 ∧ Sat c.w0 c.own H3 w) := by
  subst hv
  exact J.post (R := Ask0 p u d rt r k a now) (.inl ⟨h0, (q, e), rfl, rfl⟩) ho
end
theorem okA_parts {u : Int} {a : Ak} (h : okA u a = true) : a.us = u ∧ askE a = 0 := by simpa [okA] using h
theorem okA_not {u : Int} {a : Ak} (h : okA u a = false) : ¬ a.us = u ∨ (a.us = u ∧ askE a = 39) := by
  by_cases h1 : a.us = u
  · right
    refine ⟨h1, (askE_or a).resolve_left fun h2 => ?_⟩
    rw [okA_y h1 h2] at h
    cases h
  · exact .inl h1
theorem cs_imp {P : Program} {f : Nat} {args : List Value} {H1 : List Asrt} {w : World} {R R' : Ending → List Asrt → Prop} (h : CSpec P f args H1 w R) (hi : ∀ e H, R e H → R' e H) : CSpec P f args H1 w R' := fun fp h1 h2 h3 => Calls.mono (h fp h1 h2 h3) fun e w' ⟨H3, hR, hs⟩ => ⟨H3, hi e H3 hR, hs⟩
/-- More is there; it stays. -/
theorem cs_keep {P : Program} {f : Nat} {args : List Value} {H1 : List Asrt} {w : World} {v : Value} (h : CSpec P f args H1 w (Keeps v H1)) : CSpec P f args H1 w (fun e H => e = .returned v ∧ H = H1) := cs_imp h fun e H ⟨h1, h2⟩ => ⟨h1, h2⟩
theorem ask_u0 (p : Nat) (u d : Int) (rt : List UInt8) (r k : Nat) (a : Ak) (now : Int) (ha : AkIn a) (hu : ¬ a.us = u) (w : World) : CSpec Try.prog 15 [.pointer (some ⟨p, 0, none⟩), .agg a.cells.toArray, .int .i64 now] [blk p (cliC u d rt r k (.slice none 0 0) false) 76, blk r (roomC (.slice none 0 0)) 116] w (Keeps (.tuple #[.agg mg0.cells.toArray, .int .i64 39]) [blk p (cliC u d rt r k (.slice none 0 0) false) 76, blk r (roomC (.slice none 0 0)) 116]) := by
  refine spec_of Try.func15 rfl Try.ntmps15 rfl (l0 := [(0, .pointer (some ⟨p, 0, none⟩)), (1, .agg a.cells.toArray), (2, .int .i64 now)]) rfl ?_
  intro fp
  repeat' first
    | (refine J.qv ?_; (with_reducible apply exq); focus (first
      | ((with_reducible apply Qv.buildS (T := 47)); exact rfl; exact (show _ = some (mg0.cells) from rfl))
      | ((with_reducible apply Qv.buildS (T := 47)); exact rfl; exact (show _ = some (Mg.cells (mk1 a)) from rfl))))
    | (refine J.qr ?_; (with_reducible apply exq); focus (first
      | ((with_reducible apply Qr.load1); exact rfl; (focus ((repeat (first | with_reducible exact In.here | with_reducible apply In.there)); done)); exact rfl)
      | ((with_reducible apply Qr.loadFull); exact rfl; (focus ((repeat (first | with_reducible exact In.here | with_reducible apply In.there)); done)); (with_reducible first | exact ak_len _ | exact mg_len _))))
    | (refine J.qo ?_; refine ⟨?_, ?_⟩; focus (first
      | ((with_reducible apply Qr.load1); exact rfl; (focus ((repeat (first | with_reducible exact In.here | with_reducible apply In.there)); done)); exact rfl)
      | ((with_reducible apply Qr.loadFull); exact rfl; (focus ((repeat (first | with_reducible exact In.here | with_reducible apply In.there)); done)); (with_reducible first | exact ak_len _ | exact mg_len _))))
    | ((with_reducible apply J.storeFull); exact rfl; exact rfl; (repeat (first | with_reducible exact Upd.here | with_reducible apply Upd.there)); (with_reducible exact mg_len _); (focus (first | (with_reducible exact mg_len _) | kernel_rfl)); with_reducible exact mg_ones _)
    | ((with_reducible apply J.keepsW (up0_ _ _ _ _ _ _ _)); exact rfl; exact rfl; (repeat (first | (with_reducible exact Outs.nil) | ((with_reducible apply Outs.cons); (repeat (first | with_reducible exact Out.here | with_reducible apply Out.there))))))
    | refine J.one ?_
    | refine J.loudS ?_
    | (refine J.loudQ ?_; intro _ _)
    | (refine J.loudB ?_; intro _)
    | (with_reducible apply J.list)
    | ((with_reducible apply J.draw (id := 4) [0, 1, 0, 4, 12, 28, 63] (.p 0 (.q 1 (.p 2 (.p 3 (.p 4 (.q 5 (.p 6 .nil))))))) (by kernel_rfl) ?_ (by kernel_rfl) ?_); (repeat (with_reducible first | exact PanicFree.body | exact PanicFree.np | exact PanicFree.lvS | apply PanicFree.then_ | apply PanicFree.blk)))
    | ((with_reducible apply J.draw (id := 8) [0, 1, 3, 7, 0, 0, 63, 127] (.p 0 (.p 1 (.p 2 (.q 3 (.q 4 (.p 5 (.x 6 (.p 7 .nil) .none))))))) (by kernel_rfl) ?_ (by kernel_rfl) ?_); (repeat (with_reducible first | exact PanicFree.body | exact PanicFree.np | exact PanicFree.lvS | apply PanicFree.then_ | apply PanicFree.blk)))
    | ((with_reducible apply J.pl2); exact rfl; (first | exact Gd.none | ((with_reducible apply Gd.on); exact rfl; exact rfl)); (repeat (first | (with_reducible exact PendF.nil) | ((with_reducible apply PendF.keep); exact rfl) | ((with_reducible apply PendF.gone); exact rfl))))
    | ((with_reducible apply J.pl2_off); exact rfl; ((with_reducible apply Gd.off); exact rfl; exact rfl; exact rfl); exact rfl; (repeat (first | (with_reducible exact PendF.nil) | ((with_reducible apply PendF.keep); exact rfl) | ((with_reducible apply PendF.gone); exact rfl))))
    | ((with_reducible apply J.pl2_off_none); exact rfl; ((with_reducible apply Gd.off); exact rfl; exact rfl; exact rfl); (repeat (first | (with_reducible exact PendF.nil) | ((with_reducible apply PendF.keep); exact rfl) | ((with_reducible apply PendF.gone); exact rfl))))
    | ((with_reducible first | apply J.psplit0 | apply J.psplit1 | apply J.psplit2); exact rfl; exact rfl; exact rfl)
    | (with_reducible exact J.pl_none)
    | ((with_reducible apply J.gsplit); exact rfl; exact rfl)
    | ((with_reducible first | apply J.cond | apply JC.cond); exact rfl)
    | (intro h; exfalso; (first | (simp at h; done) | (simp at h; omega) | omega))
    | (intro h; (try simp only [decide_eq_true_eq, decide_eq_false_iff_not, beq_iff_eq, beq_eq_false_iff_ne, Bool.not_eq_true', Bool.not_eq_false', bne_iff_ne, bne_eq_false_iff_eq, ne_eq, ge_iff_le, gt_iff_lt] at h))
    | (with_reducible apply J.gave')
    | ((with_reducible apply J.kept'); rotate_left; (repeat (first | (with_reducible exact Outs.nil) | ((with_reducible apply Outs.cons); (repeat (first | with_reducible exact Out.here | with_reducible apply Out.there))))))
  all_goals (rfl)
theorem ask_u1 (p : Nat) (u d : Int) (rt : List UInt8) (r k : Nat) (ao : Option Addr) (cap : Nat) (b : Ak) (s : Int) (e : Nat) (hb : AkIn b) (a : Ak) (now : Int) (ha : AkIn a) (hu : ¬ a.us = u) (w : World) : CSpec Try.prog 15 [.pointer (some ⟨p, 0, none⟩), .agg a.cells.toArray, .int .i64 now] [blk p (cliC u d rt r k (.slice none 0 0) false) 76, blk r (roomC (.slice ao 1 cap)) 116, row (.slice ao 1 cap) 139 1 1 [.pointer (some ⟨e, 0, none⟩)], blk e (entC b s) 143] w (Keeps (.tuple #[.agg mg0.cells.toArray, .int .i64 39]) [blk p (cliC u d rt r k (.slice none 0 0) false) 76, blk r (roomC (.slice ao 1 cap)) 116, row (.slice ao 1 cap) 139 1 1 [.pointer (some ⟨e, 0, none⟩)], blk e (entC b s) 143]) := by
  refine spec_of Try.func15 rfl Try.ntmps15 rfl (l0 := [(0, .pointer (some ⟨p, 0, none⟩)), (1, .agg a.cells.toArray), (2, .int .i64 now)]) rfl ?_
  intro fp
  repeat' first
    | (refine J.qv ?_; (with_reducible apply exq); focus (first
      | ((with_reducible apply Qv.buildS (T := 47)); exact rfl; exact (show _ = some (mg0.cells) from rfl))
      | ((with_reducible apply Qv.buildS (T := 47)); exact rfl; exact (show _ = some (Mg.cells (mk1 a)) from rfl))))
    | (refine J.qr ?_; (with_reducible apply exq); focus (first
      | ((with_reducible apply Qr.load1); exact rfl; (focus ((repeat (first | with_reducible exact In.here | with_reducible apply In.there)); done)); exact rfl)
      | ((with_reducible apply Qr.loadFull); exact rfl; (focus ((repeat (first | with_reducible exact In.here | with_reducible apply In.there)); done)); (with_reducible first | exact ak_len _ | exact mg_len _))))
    | (refine J.qo ?_; refine ⟨?_, ?_⟩; focus (first
      | ((with_reducible apply Qr.load1); exact rfl; (focus ((repeat (first | with_reducible exact In.here | with_reducible apply In.there)); done)); exact rfl)
      | ((with_reducible apply Qr.loadFull); exact rfl; (focus ((repeat (first | with_reducible exact In.here | with_reducible apply In.there)); done)); (with_reducible first | exact ak_len _ | exact mg_len _))))
    | ((with_reducible apply J.storeFull); exact rfl; exact rfl; (repeat (first | with_reducible exact Upd.here | with_reducible apply Upd.there)); (with_reducible exact mg_len _); (focus (first | (with_reducible exact mg_len _) | kernel_rfl)); with_reducible exact mg_ones _)
    | ((with_reducible apply J.keepsW (up0_ _ _ _ _ _ _ _)); exact rfl; exact rfl; (repeat (first | (with_reducible exact Outs.nil) | ((with_reducible apply Outs.cons); (repeat (first | with_reducible exact Out.here | with_reducible apply Out.there))))))
    | refine J.one ?_
    | refine J.loudS ?_
    | (refine J.loudQ ?_; intro _ _)
    | (refine J.loudB ?_; intro _)
    | (with_reducible apply J.list)
    | ((with_reducible apply J.draw (id := 4) [0, 1, 0, 4, 12, 28, 63] (.p 0 (.q 1 (.p 2 (.p 3 (.p 4 (.q 5 (.p 6 .nil))))))) (by kernel_rfl) ?_ (by kernel_rfl) ?_); (repeat (with_reducible first | exact PanicFree.body | exact PanicFree.np | exact PanicFree.lvS | apply PanicFree.then_ | apply PanicFree.blk)))
    | ((with_reducible apply J.draw (id := 8) [0, 1, 3, 7, 0, 0, 63, 127] (.p 0 (.p 1 (.p 2 (.q 3 (.q 4 (.p 5 (.x 6 (.p 7 .nil) .none))))))) (by kernel_rfl) ?_ (by kernel_rfl) ?_); (repeat (with_reducible first | exact PanicFree.body | exact PanicFree.np | exact PanicFree.lvS | apply PanicFree.then_ | apply PanicFree.blk)))
    | ((with_reducible apply J.pl2); exact rfl; (first | exact Gd.none | ((with_reducible apply Gd.on); exact rfl; exact rfl)); (repeat (first | (with_reducible exact PendF.nil) | ((with_reducible apply PendF.keep); exact rfl) | ((with_reducible apply PendF.gone); exact rfl))))
    | ((with_reducible apply J.pl2_off); exact rfl; ((with_reducible apply Gd.off); exact rfl; exact rfl; exact rfl); exact rfl; (repeat (first | (with_reducible exact PendF.nil) | ((with_reducible apply PendF.keep); exact rfl) | ((with_reducible apply PendF.gone); exact rfl))))
    | ((with_reducible apply J.pl2_off_none); exact rfl; ((with_reducible apply Gd.off); exact rfl; exact rfl; exact rfl); (repeat (first | (with_reducible exact PendF.nil) | ((with_reducible apply PendF.keep); exact rfl) | ((with_reducible apply PendF.gone); exact rfl))))
    | ((with_reducible first | apply J.psplit0 | apply J.psplit1 | apply J.psplit2); exact rfl; exact rfl; exact rfl)
    | (with_reducible exact J.pl_none)
    | ((with_reducible apply J.gsplit); exact rfl; exact rfl)
    | ((with_reducible first | apply J.cond | apply JC.cond); exact rfl)
    | (intro h; exfalso; (first | (simp at h; done) | (simp at h; omega) | omega))
    | (intro h; (try simp only [decide_eq_true_eq, decide_eq_false_iff_not, beq_iff_eq, beq_eq_false_iff_ne, Bool.not_eq_true', Bool.not_eq_false', bne_iff_ne, bne_eq_false_iff_eq, ne_eq, ge_iff_le, gt_iff_lt] at h))
    | (with_reducible apply J.gave')
    | ((with_reducible apply J.kept'); rotate_left; (repeat (first | (with_reducible exact Outs.nil) | ((with_reducible apply Outs.cons); (repeat (first | with_reducible exact Out.here | with_reducible apply Out.there))))))
  all_goals (rfl)
theorem ask_e1 (p : Nat) (u d : Int) (rt : List UInt8) (r k : Nat) (ao : Option Addr) (cap : Nat) (b : Ak) (s : Int) (e : Nat) (hb : AkIn b) (a : Ak) (now : Int) (ha : AkIn a) (hu : a.us = u) (hx : askE a = 39) (w : World) : CSpec Try.prog 15 [.pointer (some ⟨p, 0, none⟩), .agg a.cells.toArray, .int .i64 now] [blk p (cliC u d rt r k (.slice none 0 0) false) 76, blk r (roomC (.slice ao 1 cap)) 116, row (.slice ao 1 cap) 139 1 1 [.pointer (some ⟨e, 0, none⟩)], blk e (entC b s) 143] w (Keeps (.tuple #[.agg mg0.cells.toArray, .int .i64 39]) [blk p (cliC u d rt r k (.slice none 0 0) false) 76, blk r (roomC (.slice ao 1 cap)) 116, row (.slice ao 1 cap) 139 1 1 [.pointer (some ⟨e, 0, none⟩)], blk e (entC b s) 143]) := by
  refine spec_of Try.func15 rfl Try.ntmps15 rfl (l0 := [(0, .pointer (some ⟨p, 0, none⟩)), (1, .agg a.cells.toArray), (2, .int .i64 now)]) rfl ?_
  intro fp
  repeat' first
    | (refine J.qv ?_; (with_reducible apply exq); focus (first
      | ((with_reducible apply Qv.buildS (T := 47)); exact rfl; exact (show _ = some (mg0.cells) from rfl))
      | ((with_reducible apply Qv.buildS (T := 47)); exact rfl; exact (show _ = some (Mg.cells (mk1 a)) from rfl))))
    | (refine J.qr ?_; (with_reducible apply exq); focus (first
      | ((with_reducible apply Qr.load1); exact rfl; (focus ((repeat (first | with_reducible exact In.here | with_reducible apply In.there)); done)); exact rfl)
      | ((with_reducible apply Qr.loadFull); exact rfl; (focus ((repeat (first | with_reducible exact In.here | with_reducible apply In.there)); done)); (with_reducible first | exact ak_len _ | exact mg_len _))))
    | (refine J.qo ?_; refine ⟨?_, ?_⟩; focus (first
      | ((with_reducible apply Qr.load1); exact rfl; (focus ((repeat (first | with_reducible exact In.here | with_reducible apply In.there)); done)); exact rfl)
      | ((with_reducible apply Qr.loadFull); exact rfl; (focus ((repeat (first | with_reducible exact In.here | with_reducible apply In.there)); done)); (with_reducible first | exact ak_len _ | exact mg_len _))))
    | ((with_reducible apply J.storeFull); exact rfl; exact rfl; (repeat (first | with_reducible exact Upd.here | with_reducible apply Upd.there)); (with_reducible exact mg_len _); (focus (first | (with_reducible exact mg_len _) | kernel_rfl)); with_reducible exact mg_ones _)
    | ((with_reducible apply J.keepsW (up0_ _ _ _ _ _ _ _)); exact rfl; exact rfl; (repeat (first | (with_reducible exact Outs.nil) | ((with_reducible apply Outs.cons); (repeat (first | with_reducible exact Out.here | with_reducible apply Out.there))))))
    | ((with_reducible apply J.keepsW (cfind0 _ _ _ _ _ _ _)); exact rfl; exact rfl; (repeat (first | (with_reducible exact Outs.nil) | ((with_reducible apply Outs.cons); (repeat (first | with_reducible exact Out.here | with_reducible apply Out.there))))))
    | ((with_reducible apply J.givesR (open_x r _ a now ha 39 hx (by decide))); exact rfl; exact rfl; focus (exact RH.blk0 (by (repeat (first | with_reducible exact In.here | with_reducible apply In.there)))))
    | refine J.one ?_
    | refine J.loudS ?_
    | (refine J.loudQ ?_; intro _ _)
    | (refine J.loudB ?_; intro _)
    | (with_reducible apply J.list)
    | ((with_reducible apply J.draw (id := 4) [0, 1, 0, 4, 12, 28, 63] (.p 0 (.q 1 (.p 2 (.p 3 (.p 4 (.q 5 (.p 6 .nil))))))) (by kernel_rfl) ?_ (by kernel_rfl) ?_); (repeat (with_reducible first | exact PanicFree.body | exact PanicFree.np | exact PanicFree.lvS | apply PanicFree.then_ | apply PanicFree.blk)))
    | ((with_reducible apply J.draw (id := 8) [0, 1, 3, 7, 0, 0, 63, 127] (.p 0 (.p 1 (.p 2 (.q 3 (.q 4 (.p 5 (.x 6 (.p 7 .nil) .none))))))) (by kernel_rfl) ?_ (by kernel_rfl) ?_); (repeat (with_reducible first | exact PanicFree.body | exact PanicFree.np | exact PanicFree.lvS | apply PanicFree.then_ | apply PanicFree.blk)))
    | ((with_reducible apply J.pl2); exact rfl; (first | exact Gd.none | ((with_reducible apply Gd.on); exact rfl; exact rfl)); (repeat (first | (with_reducible exact PendF.nil) | ((with_reducible apply PendF.keep); exact rfl) | ((with_reducible apply PendF.gone); exact rfl))))
    | ((with_reducible apply J.pl2_off); exact rfl; ((with_reducible apply Gd.off); exact rfl; exact rfl; exact rfl); exact rfl; (repeat (first | (with_reducible exact PendF.nil) | ((with_reducible apply PendF.keep); exact rfl) | ((with_reducible apply PendF.gone); exact rfl))))
    | ((with_reducible apply J.pl2_off_none); exact rfl; ((with_reducible apply Gd.off); exact rfl; exact rfl; exact rfl); (repeat (first | (with_reducible exact PendF.nil) | ((with_reducible apply PendF.keep); exact rfl) | ((with_reducible apply PendF.gone); exact rfl))))
    | ((with_reducible first | apply J.psplit0 | apply J.psplit1 | apply J.psplit2); exact rfl; exact rfl; exact rfl)
    | (with_reducible exact J.pl_none)
    | ((with_reducible apply J.gsplit); exact rfl; exact rfl)
    | ((with_reducible first | apply J.cond | apply JC.cond); exact rfl)
    | (intro h; exfalso; (first | (simp at h; done) | (simp at h; omega) | omega))
    | (intro h; (try simp only [decide_eq_true_eq, decide_eq_false_iff_not, beq_iff_eq, beq_eq_false_iff_ne, Bool.not_eq_true', Bool.not_eq_false', bne_iff_ne, bne_eq_false_iff_eq, ne_eq, ge_iff_le, gt_iff_lt] at h))
    | (with_reducible apply J.gave')
    | ((with_reducible apply J.kept'); rotate_left; (repeat (first | (with_reducible exact Outs.nil) | ((with_reducible apply Outs.cons); (repeat (first | with_reducible exact Out.here | with_reducible apply Out.there))))))
  all_goals (rfl)
theorem ask_0y (p : Nat) (u d : Int) (rt : List UInt8) (r k : Nat) (a : Ak) (now : Int) (ha : AkIn a) (hu : a.us = u) (hx : askE a = 0) (w : World) : CSpec Try.prog 15 [.pointer (some ⟨p, 0, none⟩), .agg a.cells.toArray, .int .i64 now] [blk p (cliC u d rt r k (.slice none 0 0) false) 76, blk r (roomC (.slice none 0 0)) 116] w (Ask0 p u d rt r k a now) := by
  refine spec_of Try.func15 rfl Try.ntmps15 rfl (l0 := [(0, .pointer (some ⟨p, 0, none⟩)), (1, .agg a.cells.toArray), (2, .int .i64 now)]) rfl ?_
  intro fp
  repeat' first
    | (refine J.qv ?_; (with_reducible apply exq); focus (first
      | ((with_reducible apply Qv.buildS (T := 47)); exact rfl; exact (show _ = some (mg0.cells) from rfl))
      | ((with_reducible apply Qv.buildS (T := 47)); exact rfl; exact (show _ = some (Mg.cells (mk1 a)) from rfl))))
    | (refine J.qr ?_; (with_reducible apply exq); focus (first
      | ((with_reducible apply Qr.load1); exact rfl; (focus ((repeat (first | with_reducible exact In.here | with_reducible apply In.there)); done)); exact rfl)
      | ((with_reducible apply Qr.loadFull); exact rfl; (focus ((repeat (first | with_reducible exact In.here | with_reducible apply In.there)); done)); (with_reducible first | exact ak_len _ | exact mg_len _))))
    | (refine J.qo ?_; refine ⟨?_, ?_⟩; focus (first
      | ((with_reducible apply Qr.load1); exact rfl; (focus ((repeat (first | with_reducible exact In.here | with_reducible apply In.there)); done)); exact rfl)
      | ((with_reducible apply Qr.loadFull); exact rfl; (focus ((repeat (first | with_reducible exact In.here | with_reducible apply In.there)); done)); (with_reducible first | exact ak_len _ | exact mg_len _))))
    | ((with_reducible apply J.storeFull); exact rfl; exact rfl; (repeat (first | with_reducible exact Upd.here | with_reducible apply Upd.there)); (with_reducible exact mg_len _); (focus (first | (with_reducible exact mg_len _) | kernel_rfl)); with_reducible exact mg_ones _)
    | ((with_reducible apply J.keepsW (up0_ _ _ _ _ _ _ _)); exact rfl; exact rfl; (repeat (first | (with_reducible exact Outs.nil) | ((with_reducible apply Outs.cons); (repeat (first | with_reducible exact Out.here | with_reducible apply Out.there))))))
    | ((with_reducible apply J.keepsW (cfind0 _ _ _ _ _ _ _)); exact rfl; exact rfl; (repeat (first | (with_reducible exact Outs.nil) | ((with_reducible apply Outs.cons); (repeat (first | with_reducible exact Out.here | with_reducible apply Out.there))))))
    | ((with_reducible apply J.opnE (fun w => open_0 r a now ha hx w)); exact rfl; exact rfl; (repeat (first | (with_reducible exact Outs.nil) | ((with_reducible apply Outs.cons); (repeat (first | with_reducible exact Out.here | with_reducible apply Out.there))))); intro q9 e9)
    | refine J.one ?_
    | refine J.loudS ?_
    | (refine J.loudQ ?_; intro _ _)
    | (refine J.loudB ?_; intro _)
    | (with_reducible apply J.list)
    | ((with_reducible apply J.draw (id := 4) [0, 1, 0, 4, 12, 28, 63] (.p 0 (.q 1 (.p 2 (.p 3 (.p 4 (.q 5 (.p 6 .nil))))))) (by kernel_rfl) ?_ (by kernel_rfl) ?_); (repeat (with_reducible first | exact PanicFree.body | exact PanicFree.np | exact PanicFree.lvS | apply PanicFree.then_ | apply PanicFree.blk)))
    | ((with_reducible apply J.draw (id := 8) [0, 1, 3, 7, 0, 0, 63, 127] (.p 0 (.p 1 (.p 2 (.q 3 (.q 4 (.p 5 (.x 6 (.p 7 .nil) .none))))))) (by kernel_rfl) ?_ (by kernel_rfl) ?_); (repeat (with_reducible first | exact PanicFree.body | exact PanicFree.np | exact PanicFree.lvS | apply PanicFree.then_ | apply PanicFree.blk)))
    | ((with_reducible apply J.pl2); exact rfl; (first | exact Gd.none | ((with_reducible apply Gd.on); exact rfl; exact rfl)); (repeat (first | (with_reducible exact PendF.nil) | ((with_reducible apply PendF.keep); exact rfl) | ((with_reducible apply PendF.gone); exact rfl))))
    | ((with_reducible apply J.pl2_off); exact rfl; ((with_reducible apply Gd.off); exact rfl; exact rfl; exact rfl); exact rfl; (repeat (first | (with_reducible exact PendF.nil) | ((with_reducible apply PendF.keep); exact rfl) | ((with_reducible apply PendF.gone); exact rfl))))
    | ((with_reducible apply J.pl2_off_none); exact rfl; ((with_reducible apply Gd.off); exact rfl; exact rfl; exact rfl); (repeat (first | (with_reducible exact PendF.nil) | ((with_reducible apply PendF.keep); exact rfl) | ((with_reducible apply PendF.gone); exact rfl))))
    | ((with_reducible first | apply J.psplit0 | apply J.psplit1 | apply J.psplit2); exact rfl; exact rfl; exact rfl)
    | (with_reducible exact J.pl_none)
    | ((with_reducible apply J.gsplit); exact rfl; exact rfl)
    | ((with_reducible first | apply J.cond | apply JC.cond); exact rfl)
    | (intro h; exfalso; (first | (simp at h; done) | (simp at h; omega) | omega))
    | (intro h; (try simp only [decide_eq_true_eq, decide_eq_false_iff_not, beq_iff_eq, beq_eq_false_iff_ne, Bool.not_eq_true', Bool.not_eq_false', bne_iff_ne, bne_eq_false_iff_eq, ne_eq, ge_iff_le, gt_iff_lt] at h))
    | (with_reducible apply J.gave')
    | ((with_reducible apply J.kept'); rotate_left; (repeat (first | (with_reducible exact Outs.nil) | ((with_reducible apply Outs.cons); (repeat (first | with_reducible exact Out.here | with_reducible apply Out.there))))))
  all_goals first
    | (apply J.endA0 (okA_y hu hx) rfl
       (repeat (first | (with_reducible exact Outs.nil) | ((with_reducible apply Outs.cons); (repeat (first | with_reducible exact Out.here | with_reducible apply Out.there))))))
    | (trace_state; fail)
theorem ask_1n (p : Nat) (u d : Int) (rt : List UInt8) (r k : Nat) (ao : Option Addr) (cap : Nat) (b : Ak) (s : Int) (e : Nat) (hb : AkIn b) (a : Ak) (now : Int) (ha : AkIn a) (hu : a.us = u) (hx : askE a = 0) (h9 : aeq b a = false) (w : World) : CSpec Try.prog 15 [.pointer (some ⟨p, 0, none⟩), .agg a.cells.toArray, .int .i64 now] [blk p (cliC u d rt r k (.slice none 0 0) false) 76, blk r (roomC (.slice ao 1 cap)) 116, row (.slice ao 1 cap) 139 1 1 [.pointer (some ⟨e, 0, none⟩)], blk e (entC b s) 143] w (Gives (.tuple #[.agg (Mg.cells (mk1 a)).toArray, .int .i64 0])) := by
  refine spec_of Try.func15 rfl Try.ntmps15 rfl (l0 := [(0, .pointer (some ⟨p, 0, none⟩)), (1, .agg a.cells.toArray), (2, .int .i64 now)]) rfl ?_
  intro fp
  repeat' first
    | (refine J.qv ?_; (with_reducible apply exq); focus (first
      | ((with_reducible apply Qv.buildS (T := 47)); exact rfl; exact (show _ = some (mg0.cells) from rfl))
      | ((with_reducible apply Qv.buildS (T := 47)); exact rfl; exact (show _ = some (Mg.cells (mk1 a)) from rfl))))
    | (refine J.qr ?_; (with_reducible apply exq); focus (first
      | ((with_reducible apply Qr.load1); exact rfl; (focus ((repeat (first | with_reducible exact In.here | with_reducible apply In.there)); done)); exact rfl)
      | ((with_reducible apply Qr.loadFull); exact rfl; (focus ((repeat (first | with_reducible exact In.here | with_reducible apply In.there)); done)); (with_reducible first | exact ak_len _ | exact mg_len _))))
    | (refine J.qo ?_; refine ⟨?_, ?_⟩; focus (first
      | ((with_reducible apply Qr.load1); exact rfl; (focus ((repeat (first | with_reducible exact In.here | with_reducible apply In.there)); done)); exact rfl)
      | ((with_reducible apply Qr.loadFull); exact rfl; (focus ((repeat (first | with_reducible exact In.here | with_reducible apply In.there)); done)); (with_reducible first | exact ak_len _ | exact mg_len _))))
    | ((with_reducible apply J.storeFull); exact rfl; exact rfl; (repeat (first | with_reducible exact Upd.here | with_reducible apply Upd.there)); (with_reducible exact mg_len _); (focus (first | (with_reducible exact mg_len _) | kernel_rfl)); with_reducible exact mg_ones _)
    | ((with_reducible apply J.keepsW (up0_ _ _ _ _ _ _ _)); exact rfl; exact rfl; (repeat (first | (with_reducible exact Outs.nil) | ((with_reducible apply Outs.cons); (repeat (first | with_reducible exact Out.here | with_reducible apply Out.there))))))
    | ((with_reducible apply J.keepsW (cfind0 _ _ _ _ _ _ _)); exact rfl; exact rfl; (repeat (first | (with_reducible exact Outs.nil) | ((with_reducible apply Outs.cons); (repeat (first | with_reducible exact Out.here | with_reducible apply Out.there))))))
    | ((with_reducible apply J.takes (fun w => open_1n r ao cap b a s e hb ha h9 now hx w)); exact rfl; exact rfl; (repeat (first | (with_reducible exact Outs.nil) | ((with_reducible apply Outs.cons); (repeat (first | with_reducible exact Out.here | with_reducible apply Out.there))))))
    | refine J.one ?_
    | refine J.loudS ?_
    | (refine J.loudQ ?_; intro _ _)
    | (refine J.loudB ?_; intro _)
    | (with_reducible apply J.list)
    | ((with_reducible apply J.draw (id := 4) [0, 1, 0, 4, 12, 28, 63] (.p 0 (.q 1 (.p 2 (.p 3 (.p 4 (.q 5 (.p 6 .nil))))))) (by kernel_rfl) ?_ (by kernel_rfl) ?_); (repeat (with_reducible first | exact PanicFree.body | exact PanicFree.np | exact PanicFree.lvS | apply PanicFree.then_ | apply PanicFree.blk)))
    | ((with_reducible apply J.draw (id := 8) [0, 1, 3, 7, 0, 0, 63, 127] (.p 0 (.p 1 (.p 2 (.q 3 (.q 4 (.p 5 (.x 6 (.p 7 .nil) .none))))))) (by kernel_rfl) ?_ (by kernel_rfl) ?_); (repeat (with_reducible first | exact PanicFree.body | exact PanicFree.np | exact PanicFree.lvS | apply PanicFree.then_ | apply PanicFree.blk)))
    | ((with_reducible apply J.pl2); exact rfl; (first | exact Gd.none | ((with_reducible apply Gd.on); exact rfl; exact rfl)); (repeat (first | (with_reducible exact PendF.nil) | ((with_reducible apply PendF.keep); exact rfl) | ((with_reducible apply PendF.gone); exact rfl))))
    | ((with_reducible apply J.pl2_off); exact rfl; ((with_reducible apply Gd.off); exact rfl; exact rfl; exact rfl); exact rfl; (repeat (first | (with_reducible exact PendF.nil) | ((with_reducible apply PendF.keep); exact rfl) | ((with_reducible apply PendF.gone); exact rfl))))
    | ((with_reducible apply J.pl2_off_none); exact rfl; ((with_reducible apply Gd.off); exact rfl; exact rfl; exact rfl); (repeat (first | (with_reducible exact PendF.nil) | ((with_reducible apply PendF.keep); exact rfl) | ((with_reducible apply PendF.gone); exact rfl))))
    | ((with_reducible first | apply J.psplit0 | apply J.psplit1 | apply J.psplit2); exact rfl; exact rfl; exact rfl)
    | (with_reducible exact J.pl_none)
    | ((with_reducible apply J.gsplit); exact rfl; exact rfl)
    | ((with_reducible first | apply J.cond | apply JC.cond); exact rfl)
    | (intro h; exfalso; (first | (simp at h; done) | (simp at h; omega) | omega))
    | (intro h; (try simp only [decide_eq_true_eq, decide_eq_false_iff_not, beq_iff_eq, beq_eq_false_iff_ne, Bool.not_eq_true', Bool.not_eq_false', bne_iff_ne, bne_eq_false_iff_eq, ne_eq, ge_iff_le, gt_iff_lt] at h))
    | (with_reducible apply J.gave')
    | ((with_reducible apply J.kept'); rotate_left; (repeat (first | (with_reducible exact Outs.nil) | ((with_reducible apply Outs.cons); (repeat (first | with_reducible exact Out.here | with_reducible apply Out.there))))))
  all_goals first
    | rfl
    | (trace_state; fail)
theorem ask0 (p : Nat) (u d : Int) (rt : List UInt8) (r k : Nat) (a : Ak) (now : Int) (ha : AkIn a) (w : World) : CSpec Try.prog 15 [.pointer (some ⟨p, 0, none⟩), .agg a.cells.toArray, .int .i64 now] [blk p (cliC u d rt r k (.slice none 0 0) false) 76, blk r (roomC (.slice none 0 0)) 116] w (Ask0 p u d rt r k a now) := by
  by_cases h : okA u a = true
  · obtain ⟨h1, h2⟩ := okA_parts h
    exact ask_0y p u d rt r k a now ha h1 h2 w
  · have h0 : okA u a = false := by simpa using h
    rcases okA_not h0 with h1 | ⟨h1, h2⟩
    · exact cs_imp (ask_u0 p u d rt r k a now ha h1 w) fun e H ⟨e1, e2⟩ => .inr ⟨h0, e1, e2⟩
    · exact cs_imp (ask_e p u d rt r k _ a now ha h1 h2 w) fun e H ⟨e1, e2⟩ => .inr ⟨h0, e1, e2⟩
theorem ask1 (p : Nat) (u d : Int) (rt : List UInt8) (r k : Nat) (ao : Option Addr) (cap : Nat) (b : Ak) (s : Int) (e : Nat) (hb : AkIn b) (a : Ak) (now : Int) (ha : AkIn a) (w : World) : CSpec Try.prog 15 [.pointer (some ⟨p, 0, none⟩), .agg a.cells.toArray, .int .i64 now] [blk p (cliC u d rt r k (.slice none 0 0) false) 76, blk r (roomC (.slice ao 1 cap)) 116, row (.slice ao 1 cap) 139 1 1 [.pointer (some ⟨e, 0, none⟩)], blk e (entC b s) 143] w (Ask1 u b a [blk p (cliC u d rt r k (.slice none 0 0) false) 76, blk r (roomC (.slice ao 1 cap)) 116, row (.slice ao 1 cap) 139 1 1 [.pointer (some ⟨e, 0, none⟩)], blk e (entC b s) 143]) := by
  by_cases h : okA u a = true
  · obtain ⟨h1, h2⟩ := okA_parts h
    by_cases h9 : aeq b a = true
    · exact cs_imp (ask_1y p u d rt r k ao cap b s e hb a now ha h1 h2 h9 w) fun e H ⟨e1, e2⟩ => .inr (.inl ⟨h, h9, e1, e2⟩)
    · have h8 : aeq b a = false := by simpa using h9
      exact cs_imp (ask_1n p u d rt r k ao cap b s e hb a now ha h1 h2 h8 w) fun e H ⟨e1, e2⟩ => .inl ⟨h, h8, e1, e2⟩
  · have h0 : okA u a = false := by simpa using h
    rcases okA_not h0 with h1 | ⟨h1, h2⟩
    · exact cs_imp (ask_u1 p u d rt r k ao cap b s e hb a now ha h1 w) fun e H ⟨e1, e2⟩ => .inr (.inr ⟨h0, e1, e2⟩)
    · exact cs_imp (ask_e1 p u d rt r k ao cap b s e hb a now ha h1 h2 w) fun e H ⟨e1, e2⟩ => .inr (.inr ⟨h0, e1, e2⟩)
end Go.Proofs.Ytfcaeifpclpnoaa.Cax
namespace Go.Proofs.Ytfcaeifpclpnoaa.Casl
open Go Go.RowKit Eng
set_option linter.unusedVariables false
set_option maxRecDepth 100000
set_option linter.unusedSimpArgs false
open Sha Iter Hash Bytes Hsum Ots Rsum Rovr Mrt Mrr Wide Tx Cli Cfe Msg Cas Cask Caw Cax
set_option maxHeartbeats 2000000
theorem asksX (u : Int) (a g : Ak) (now : Int) (ha : AkIn a) (hg : AkIn g) (hi : u < 0 ∨ 2 ≤ u) (w : World) (hw : True) : CSpec Try.prog 5 [.int .i64 u, .agg a.cells.toArray, .agg g.cells.toArray, .int .i64 now] [] w (Gives (.bool true)) := by
  refine spec_own0 Try.func5 rfl Try.ntmps5 rfl (l0 := [(0, .int .i64 u), (1, .agg a.cells.toArray), (2, .agg g.cells.toArray), (3, .int .i64 now)]) rfl ?_
  repeat' first
    | (refine J.qr ?_; (with_reducible apply exq); focus (first
      | ((with_reducible apply Qr.load1); exact rfl; (focus ((repeat (first | with_reducible exact In.here | with_reducible apply In.there)); done)); exact rfl)
      | ((with_reducible apply Qr.loadFull); exact rfl; (focus ((repeat (first | with_reducible exact In.here | with_reducible apply In.there)); done)); (with_reducible first | exact ak_len _ | exact mg_len _))))
    | ((with_reducible apply J.givesR (alive20)); exact rfl; exact rfl; focus (exact RH.true_))
    | ((with_reducible apply J.givesR (newX u 1 9000 hi)); exact rfl; exact rfl; focus (exact RH.true_))
    | refine J.one ?_
    | refine J.loudS ?_
    | (refine J.loudQ ?_; intro _ _)
    | (refine J.loudB ?_; intro _)
    | (with_reducible apply J.list)
    | ((with_reducible apply J.gsplit); exact rfl; exact rfl)
    | ((with_reducible first | apply J.cond | apply JC.cond); exact rfl)
    | (intro h; exfalso; (first | (simp at h; done) | (simp at h; omega) | omega))
    | (intro h; (try simp only [decide_eq_true_eq, decide_eq_false_iff_not, beq_iff_eq, beq_eq_false_iff_ne, Bool.not_eq_true', Bool.not_eq_false', bne_iff_ne, bne_eq_false_iff_eq, ne_eq, ge_iff_le, gt_iff_lt] at h))
    | (with_reducible apply J.gave')
    | ((with_reducible apply J.kept'); rotate_left; (repeat (first | (with_reducible exact Outs.nil) | ((with_reducible apply Outs.cons); (repeat (first | with_reducible exact Out.here | with_reducible apply Out.there))))))
  all_goals first
    | rfl
    | (trace_state; fail)
theorem aeq_comm (a b : Ak) : aeq a b = aeq b a := by
  by_cases e : a = b
  · subst e; rfl
  · rw [aeq_f e, aeq_f (fun h => e h.symm)]
theorem asksN (n : Nat) (hn : n ≤ 1) (a g : Ak) (now : Int) (ha : AkIn a) (hg : AkIn g) (w : World) (hw : True) : CSpec Try.prog 5 [.int .i64 (n : Int), .agg a.cells.toArray, .agg g.cells.toArray, .int .i64 now] [] w (Gives (.bool true)) := by
  obtain ⟨R, hR⟩ : ∃ R, rootF (seedF n) = R := ⟨_, rfl⟩
  have hc := aeq_comm g a
  refine spec_own0 Try.func5 rfl Try.ntmps5 rfl (l0 := [(0, .int .i64 (n : Int)), (1, .agg a.cells.toArray), (2, .agg g.cells.toArray), (3, .int .i64 now)]) rfl ?_
  repeat' first
    | (exfalso; exact absurd (by with_reducible assumption : aeq a a = false) (by rw [aeq_self]; decide))
    | (exfalso; exact absurd (by with_reducible assumption : okA (n : Int) a = false) (by rw [(by with_reducible assumption : okA (n : Int) a = true)]; decide))
    | (refine J.qv ?_; (with_reducible apply exq); focus (first
      | ((with_reducible apply Qv.buildS (T := 47)); exact rfl; exact (show _ = some (mg0.cells) from rfl))
      | ((with_reducible apply Qv.buildS (T := 47)); exact rfl; exact (show _ = some (Mg.cells (mk1 a)) from rfl))
      | ((with_reducible first | apply Qv.neMg | apply Qv.eqMg); exact rfl; exact rfl; (first | exact mg0_in | exact mk1_in ha | exact mk1_in hg); (first | exact mg0_in | exact mk1_in ha | exact mk1_in hg))
      | ((with_reducible first | apply Qv.neAk | apply Qv.eqAk); exact rfl; exact rfl; exact hg; exact ha)))
    | (refine J.qr ?_; (with_reducible apply exq); focus (first
      | ((with_reducible apply Qr.load1); exact rfl; (focus ((repeat (first | with_reducible exact In.here | with_reducible apply In.there)); done)); exact rfl)
      | ((with_reducible apply Qr.loadFull); exact rfl; (focus ((repeat (first | with_reducible exact In.here | with_reducible apply In.there)); done)); (with_reducible first | exact ak_len _ | exact mg_len _))))
    | ((with_reducible apply J.storeFull); exact rfl; exact rfl; (repeat (first | with_reducible exact Upd.here | with_reducible apply Upd.there)); (with_reducible exact mg_len _); (focus (first | (with_reducible exact mg_len _) | kernel_rfl)); with_reducible exact mg_ones _)
    | ((with_reducible apply J.givesR (alive20)); exact rfl; exact rfl; focus (exact RH.true_))
    | ((with_reducible apply J.newC (fun w => new_ n 1 9000 hn w trivial) hR); exact rfl; exact rfl; intro p9 r9 k9)
    | ((with_reducible apply J.givesR (rask_ a ha)); exact rfl; exact rfl; focus (exact RH.true_))
    | ((with_reducible apply J.givesR (rask_ g hg)); exact rfl; exact rfl; focus (exact RH.true_))
    | ((with_reducible apply J.ask1 (fun w => ask1 p9 (n : Int) (dlF 1) R r9 k9 _ _ a (nowF now) _ ha a now ha w)); exact rfl; exact rfl; (repeat (first | (with_reducible exact Outs.nil) | ((with_reducible apply Outs.cons); (repeat (first | with_reducible exact Out.here | with_reducible apply Out.there))))); (intro h5 h8; obtain ⟨hu5, hx5⟩ := okA_parts h5); rotate_left; (intro h5 h8; obtain ⟨hu5, hx5⟩ := okA_parts h5; (try dsimp only [List.cons_append, List.nil_append])); rotate_left; (intro h5; have h4 := okA_not h5; (try dsimp only [List.cons_append, List.nil_append])))
    | ((with_reducible apply J.ask1 (fun w => ask1 p9 (n : Int) (dlF 1) R r9 k9 _ _ a (nowF now) _ ha g now hg w)); exact rfl; exact rfl; (repeat (first | (with_reducible exact Outs.nil) | ((with_reducible apply Outs.cons); (repeat (first | with_reducible exact Out.here | with_reducible apply Out.there))))); (intro h5 h8; obtain ⟨hu5, hx5⟩ := okA_parts h5); rotate_left; (intro h5 h8; obtain ⟨hu5, hx5⟩ := okA_parts h5; (try dsimp only [List.cons_append, List.nil_append])); rotate_left; (intro h5; have h4 := okA_not h5; (try dsimp only [List.cons_append, List.nil_append])))
    | ((with_reducible apply J.ask0 (fun w => ask0 p9 (n : Int) (dlF 1) R r9 k9 a now ha w)); exact rfl; exact rfl; (repeat (first | (with_reducible exact Outs.nil) | ((with_reducible apply Outs.cons); (repeat (first | with_reducible exact Out.here | with_reducible apply Out.there))))); (intro h7 q7 e7; obtain ⟨hu7, hx7⟩ := okA_parts h7); rotate_left; (intro h7; have h6 := okA_not h7))
    | ((with_reducible apply J.ask0 (fun w => ask0 p9 (n : Int) (dlF 1) R r9 k9 g now hg w)); exact rfl; exact rfl; (repeat (first | (with_reducible exact Outs.nil) | ((with_reducible apply Outs.cons); (repeat (first | with_reducible exact Out.here | with_reducible apply Out.there))))); (intro h7 q7 e7; obtain ⟨hu7, hx7⟩ := okA_parts h7); rotate_left; (intro h7; have h6 := okA_not h7))
    | refine J.one ?_
    | refine J.loudS ?_
    | (refine J.loudQ ?_; intro _ _)
    | (refine J.loudB ?_; intro _)
    | (with_reducible apply J.list)
    | ((with_reducible apply J.gsplit); exact rfl; exact rfl)
    | ((with_reducible first | apply J.cond | apply JC.cond); exact rfl)
    | (intro h; exfalso; (first | (simp at h; done) | (rw [meq_self] at h; simp at h; done) | (simp at h; omega) | omega))
    | (intro h; (try simp only [decide_eq_true_eq, decide_eq_false_iff_not, beq_iff_eq, beq_eq_false_iff_ne, Bool.not_eq_true', Bool.not_eq_false', bne_iff_ne, bne_eq_false_iff_eq, ne_eq, ge_iff_le, gt_iff_lt] at h))
    | (with_reducible apply J.gave')
    | ((with_reducible apply J.kept'); rotate_left; (repeat (first | (with_reducible exact Outs.nil) | ((with_reducible apply Outs.cons); (repeat (first | with_reducible exact Out.here | with_reducible apply Out.there))))))
  all_goals first
    | rfl
    | (simp_all [retv, meq_self]; done)
    | (trace_state; fail)
theorem asks (u : Int) (a g : Ak) (now : Int) (ha : AkIn a) (hg : AkIn g) (w : World) : CSpec Try.prog 5 [.int .i64 u, .agg a.cells.toArray, .agg g.cells.toArray, .int .i64 now] [] w (Gives (.bool true)) := by
  by_cases hi : u < 0 ∨ 2 ≤ u
  · exact asksX u a g now ha hg hi w trivial
  · obtain ⟨n, rfl⟩ : ∃ n : Nat, u = (n : Int) := ⟨u.toNat, by omega⟩
    exact asksN n (by omega) a g now ha hg w trivial
theorem ClientAsks {r : Reach} {b0 : Nat} {H : Type} {enc : TypeId × Value → H} {spare : Nat → Bool} {held : Bool} {d1 d2 : DataW H} {p1 p2 : List MemPlace} (u : Int) (v1 v2 : Value) (now : Int) (W : World) (g0 : (Lit.int .i64 u).wf = true) (o1 : Value.okWide Try.prog W r b0 39 v1) (t1 : DataW.Trod enc Try.prog W 0 spare held 39 v1 d1 p1) (o2 : Value.okWide Try.prog W r b0 39 v2) (t2 : DataW.Trod enc Try.prog W 0 spare held 39 v2 d2 p2) (g3 : (Lit.int .i64 now).wf = true) :
    Calls Try.prog 5 #[.int .i64 u, v1, v2, .int .i64 now] W fun e w' => e = .returned (.bool true) ∧ Below W.heap.size W w' := by
  obtain ⟨c1, rfl, r1⟩ := in_agg (L := aksh) (k := 6) o1 t1 (by kernel_rfl) (by kernel_rfl)
  obtain ⟨c2, rfl, r2⟩ := in_agg (L := aksh) (k := 6) o2 t2 (by kernel_rfl) (by kernel_rfl)
  obtain ⟨a, e1, rfl, ha, h1⟩ := reads_ak (L := []) (by rw [List.append_nil]; exact r1)
  obtain ⟨g, e2, rfl, hg, h2⟩ := reads_ak (L := []) (by rw [List.append_nil]; exact r2)
  simp only [Sh.ReadsL] at h1 h2
  subst h1 h2
  simp only [List.append_nil]
  exact (asks u a g now ha hg W).below
end Go.Proofs.Ytfcaeifpclpnoaa.Casl
