/-
  The law BuilderTells: what comes in. No conditions.
-/
import Derived.Test.YtnbckkpflmpnlaaBld6
namespace Go.Proofs.Ytnbckkpflmpnlaa.Bld7
open Go Go.RowKit Eng
set_option linter.unusedVariables false
set_option maxRecDepth 100000
set_option linter.unusedSimpArgs false
open Wide Tx Bld Bld2 Bld3 Bld4 Bld5 Bld6
set_option maxHeartbeats 4000000
def i64s (n : Nat) : List Sh := List.replicate n (.int .i64)
def u64s (n : Nat) : List Sh := List.replicate n (.int .u64)
def lksh : List Sh := [.str, .str, .int .i64]
def stsh : List Sh := i64s 2 ++ (u64s 128 ++ (i64s 8 ++ (u64s 12 ++ [.sl lksh])))
def txsh : List Sh := .int .i64 :: .int .i64 :: .int .i64 :: .int .i64 :: (wsh ++ (.int .i64 :: .str :: .int .i64 :: .int .i64 :: .int .i64 :: .int .i64 :: .str :: (wsh ++ (.int .i64 :: (wsh ++ [.str])))))
theorem reads_at {W : World} : ∀ {L : List Sh} {cs : List Value} {k : Nat} {s : Sh}, Sh.ReadsL W L cs → L[k]? = some s → ∃ v, cs[k]? = some v ∧ Sh.Reads W s v
  | [], cs, k, s, _, hk => by simp at hk
  | s0 :: L, cs, k, s, h, hk => by
    simp only [Sh.ReadsL] at h
    obtain ⟨v, cs', rfl, h1, h2⟩ := h
    cases k with
    | zero =>
      simp only [List.getElem?_cons_zero, Option.some.injEq] at hk
      subst hk
      exact ⟨v, rfl, h1⟩
    | succ k =>
      rw [List.getElem?_cons_succ] at hk ⊢
      exact reads_at h2 hk
theorem reads_nv {W : World} {cs : List Value} {o : Nat} {L : List Sh} (h : Sh.ReadsL W L cs) (ho : ∀ k, k < 8 → L[o + k]? = some (.int .i64)) (hl : o + 8 ≤ cs.length) : ∃ ns : Nat → Int, (cs.drop o).take 8 = nv ns := by
  have key : ∀ k, ∃ z : Int, k < 8 → cs[o + k]? = some (.int .i64 z) := fun k => by
    rcases Nat.lt_or_ge k 8 with h1 | h1
    · obtain ⟨v, hv, hr⟩ := reads_at h (ho k h1)
      simp only [Sh.Reads] at hr
      obtain ⟨z, rfl, _⟩ := hr
      exact ⟨z, fun _ => hv⟩
    · exact ⟨0, fun h2 => by omega⟩
  refine ⟨fun k => (key k).choose, tab_eq (by simp; omega) fun k hk => ?_⟩
  rw [List.getElem?_take, if_pos hk, List.getElem?_drop]
  exact (key k).choose_spec hk
theorem reads_i {W : World} {L : List Sh} {cs : List Value} (h : Sh.ReadsL W (.int .i64 :: L) cs) : ∃ x ds, cs = .int .i64 x :: ds ∧ Sh.ReadsL W L ds := by
  simp only [Sh.ReadsL, Sh.Reads] at h
  obtain ⟨v, ds, rfl, ⟨x, rfl, _⟩, h2⟩ := h
  exact ⟨x, ds, rfl, h2⟩
theorem reads_s {W : World} {L : List Sh} {cs : List Value} (h : Sh.ReadsL W (.str :: L) cs) : ∃ (x : List UInt8) (ds : List Value), cs = str x :: ds ∧ x.length ≤ maxLen ∧ Sh.ReadsL W L ds := by
  simp only [Sh.ReadsL, Sh.Reads] at h
  obtain ⟨v, ds, rfl, ⟨x, rfl, h1⟩, h2⟩ := h
  exact ⟨x.data.toList, ds, rfl, by simpa using h1, h2⟩
theorem reads_w {W : World} {L : List Sh} {cs : List Value} (h : Sh.ReadsL W (wsh ++ L) cs) : ∃ x ds, cs = wv x ++ ds ∧ Wd x ∧ Sh.ReadsL W L ds := by
  obtain ⟨h1, h2⟩ := ReadsL_split h
  obtain ⟨x, hx, e⟩ := reads_wv h1
  exact ⟨x, cs.drop wsh.length, by rw [← e, List.take_append_drop], hx, h2⟩
theorem reads_tx {W : World} {cs : List Value} (h : Sh.ReadsL W txsh cs) : ∃ t : Tx, t.In ∧ cs = t.cells := by
  unfold txsh at h
  obtain ⟨fr, c1, rfl, h1⟩ := reads_i h
  obtain ⟨no, c2, rfl, h2⟩ := reads_i h1
  obtain ⟨ki, c3, rfl, h3⟩ := reads_i h2
  obtain ⟨at_, c4, rfl, h4⟩ := reads_i h3
  obtain ⟨am, c5, rfl, ham, h5⟩ := reads_w h4
  obtain ⟨us, c6, rfl, h6⟩ := reads_i h5
  obtain ⟨rt, c7, rfl, hrt, h7⟩ := reads_s h6
  obtain ⟨ro, c8, rfl, h8⟩ := reads_i h7
  obtain ⟨se, c9, rfl, h9⟩ := reads_i h8
  obtain ⟨re, c10, rfl, h10⟩ := reads_i h9
  obtain ⟨to, c11, rfl, h11⟩ := reads_i h10
  obtain ⟨id, c12, rfl, hid, h12⟩ := reads_s h11
  obtain ⟨va, c13, rfl, hva, h13⟩ := reads_w h12
  obtain ⟨ex, c14, rfl, h14⟩ := reads_i h13
  obtain ⟨fee, c15, rfl, hfe, h15⟩ := reads_w h14
  obtain ⟨sg, c16, rfl, hsg, h16⟩ := reads_s h15
  simp only [Sh.ReadsL] at h16
  subst h16
  exact ⟨⟨fr, no, ki, at_, am, us, rt, ro, se, re, to, id, va, ex, fee, sg⟩, ⟨ham, hva, hrt, hid, hsg⟩, rfl⟩
/-- Transactions that come in. -/
theorem reads_txs {W : World} {v : Value} (h : Sh.Reads W (.sl txsh) v) : ∃ ao n cap, v = .slice ao n cap ∧ n ≤ cap ∧ n ≤ maxLen ∧ ∃ T : Nat → Tx, Srcs (Eng.frozen W) ao 25 n (fun i => (T i).cells) ∧ ∀ i, i < n → (T i).In := by
  have hc : ∃ ao n cap, v = .slice ao n cap ∧ n ≤ cap ∧ n ≤ maxLen := by
    simp only [Sh.Reads] at h
    rcases h with rfl | ⟨a, len, cap, rfl, h1, h2, _⟩
    · exact ⟨none, 0, 0, rfl, Nat.le_refl _, Nat.zero_le _⟩
    · exact ⟨some a, len, cap, rfl, h1, Nat.le_trans h1 h2⟩
  obtain ⟨ao, n, cap, e, h1, h2⟩ := hc
  obtain ⟨n', C, hS, _, hC⟩ := Src.frozen h
  obtain ⟨ao', cap', e', hS'⟩ := hS.srcs
  rw [e] at e'
  cases e'
  have key : ∀ i, ∃ t : Tx, i < n → t.In ∧ C i = t.cells := fun i => by
    rcases Nat.lt_or_ge i n with h3 | h3
    · obtain ⟨t, h4, h5⟩ := reads_tx (hC i h3)
      exact ⟨t, fun _ => ⟨h4, h5⟩⟩
    · exact ⟨txa, fun h4 => by omega⟩
  exact ⟨ao, n, cap, e, h1, h2, fun i => (key i).choose, hS'.eq fun i hi => ((key i).choose_spec hi).2, fun i hi => ((key i).choose_spec hi).1⟩
theorem stsh_ns : ∀ k, k < 8 → stsh[130 + k]? = some (.int .i64)
  | 0, _ => rfl
  | 1, _ => rfl
  | 2, _ => rfl
  | 3, _ => rfl
  | 4, _ => rfl
  | 5, _ => rfl
  | 6, _ => rfl
  | 7, _ => rfl
  | k + 8, h => by omega
theorem BuilderTells {r : Reach} {b0 : Nat} {H : Type} {enc : TypeId × Value → H} {spare : Nat → Bool} {held : Bool} {d d' : DataW H} {p p' : List MemPlace} (v v2 : Value) (W : World) (o : Value.okWide Try.prog W r b0 71 v) (t : DataW.Trod enc Try.prog W 0 spare held 71 v d p) (o2 : Value.okWide Try.prog W r b0 72 v2) (t2 : DataW.Trod enc Try.prog W 0 spare held 72 v2 d' p') :
    Calls Try.prog 13 #[v, v2] W fun e w' => e = .returned (.bool true) ∧ Below W.heap.size W w' := by
  obtain ⟨S, rfl, rS⟩ := in_agg (L := stsh) (k := 6) o t (by kernel_rfl) (by kernel_rfl)
  obtain ⟨ao, n, cap, rfl, h1, h2, T, hS, hT⟩ := reads_txs (in_slice (L := txsh) (k := 6) (e := 38) rfl o2 t2 (by kernel_rfl))
  have hL : S.length = 151 := rS.length
  obtain ⟨ns, hN⟩ := reads_nv (o := 130) rS stsh_ns (by omega)
  rcases Nat.lt_or_ge 30 n with h3 | h3
  · exact (tells_g W ao cap n T ns S ⟨hS.less (by omega), fun i hi => hT i (by omega), h3, hN, hL, h1, h2⟩ W).belowF
  · exact (tells_s W ao cap n T ns S ⟨hS, hT, h3, hN, hL, h1, h2⟩ W).belowF
end Go.Proofs.Ytnbckkpflmpnlaa.Bld7
