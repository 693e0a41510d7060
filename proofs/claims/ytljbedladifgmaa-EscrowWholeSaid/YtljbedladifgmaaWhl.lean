/-
  The law EscrowWhole. No conditions.
-/
import Derived.Test.YtljbedladifgmaaAlv
import Derived.Test.YtljbedladifgmaaRef
namespace Go.Proofs.Ytljbedladifgmaa.Txl
open Go Go.RowKit Eng
set_option linter.unusedVariables false
set_option maxRecDepth 100000
set_option linter.unusedSimpArgs false
open Wide Purse Tx Sha Ss Esc Vau Lck Do Prep Ful Doo Tri App Inn Low Gene Alv Deal Mss Ots Hash Bytes
set_option maxHeartbeats 1000000
def tx0 : Tx := ⟨0, 0, 0, 0, 0, 0, [], 0, 0, 0, 0, [], 0, 0, 0, []⟩
def txc (T : List Tx) : List Value := (T.map Tx.cells).flatten
theorem txc_length : ∀ T : List Tx, (txc T).length = T.length * 25
  | [] => rfl
  | k :: L => by
    have h := txc_length L
    unfold txc at h ⊢
    rw [List.map_cons, List.flatten_cons, List.length_append, h, show k.cells.length = 25 from rfl, List.length_cons]
    omega
theorem txc_at : ∀ {T : List Tx} {i : Nat}, i < T.length → ((txc T).drop (i * 25)).take 25 = (T.getD i tx0).cells
  | k :: L, 0, _ => by
    have e : txc (k :: L) = k.cells ++ txc L := rfl
    rw [e, Nat.zero_mul, List.drop_zero]
    exact List.take_left' rfl
  | k :: L, i + 1, h => by
    have h2 := txc_at (T := L) (i := i) (by simpa using h)
    have e : txc (k :: L) = k.cells ++ txc L := rfl
    rw [e, show (i + 1) * 25 = k.cells.length + i * 25 by show _ = 25 + _; omega, List.drop_append, List.drop_eq_nil_of_le (by omega), List.nil_append, show k.cells.length + i * 25 - k.cells.length = i * 25 by omega, h2]
    rfl
theorem txc_ones : ∀ T : List Tx, (txc T).all (·.oneCell') = true
  | [] => rfl
  | k :: L => by
    have h := txc_ones L
    have e : txc (k :: L) = k.cells ++ txc L := rfl
    rw [e, List.all_append, h]
    rfl
/-- Transactions that come in. -/
structure TX (t : Tx) : Prop where
  i : TIn t
  n : TNum t
def TsIn (T : List Tx) : Prop := ∀ t, t ∈ T → TX t
theorem i64_0 : I64 0 := i64_of (by decide) (by decide)
theorem tx0_in : TX tx0 := ⟨⟨⟨wd_n (by decide) (by decide), wd_n (by decide) (by decide), Nat.zero_le _, Nat.zero_le _, Nat.zero_le _⟩, wd_n (by decide) (by decide)⟩, ⟨i64_0, i64_0, i64_0, i64_0, i64_0, i64_0, i64_0, i64_0, i64_0, i64_0⟩⟩
theorem TsIn.get {T : List Tx} (h : TsIn T) (i : Nat) : TX (T.getD i tx0) := by
  rcases Nat.lt_or_ge i T.length with h1 | h1
  · rw [List.getD_eq_getElem?_getD, List.getElem?_eq_getElem h1]
    exact h _ (List.getElem_mem h1)
  · rw [List.getD_eq_getElem?_getD, List.getElem?_eq_none h1]
    exact tx0_in
theorem reads_txs {W : World} {v : Value} (h : Sh.Reads W (.sl txsh) v) : ∃ (ao : Option Addr) (T : List Tx) (cap : Nat), v = .slice ao T.length cap ∧ T.length ≤ cap ∧ cap ≤ maxLen ∧ TsIn T ∧ Rd W ao (txc T) := by
  simp only [Sh.Reads] at h
  rcases h with rfl | ⟨a, len, cap, rfl, h1, h2, C, hC⟩
  · exact ⟨none, [], 0, rfl, Nat.le_refl _, Nat.zero_le _, fun k hk => (by cases hk), Rd.nil _ _⟩
  · have key : ∀ i, ∃ k : Tx, TX k ∧ (i < len → C i = k.cells) := fun i => by
      rcases Nat.lt_or_ge i len with h3 | h3
      · obtain ⟨k, hk, hn, e⟩ := reads_tx (hC i h3).1
        exact ⟨k, ⟨hk, hn⟩, fun _ => e⟩
      · exact ⟨tx0, tx0_in, fun h4 => by omega⟩
    have hl : ((List.range len).map fun i => (key i).choose).length = len := by simp
    have hg : ∀ i, i < len → ((List.range len).map fun i => (key i).choose).getD i tx0 = (key i).choose := fun i hi => by
      rw [List.getD_eq_getElem?_getD, List.getElem?_map, List.getElem?_range hi]
      rfl
    refine ⟨some a, (List.range len).map fun i => (key i).choose, cap, by rw [hl], by rw [hl]; exact h1, h2, ?_, ?_⟩
    · intro k hk
      obtain ⟨i, _, rfl⟩ := List.mem_map.1 hk
      exact (key i).choose_spec.1
    · refine Rd.some_ fun j u hj => ?_
      have hjl : j < len * 25 := by
        rcases Nat.lt_or_ge j (len * 25) with h3 | h3
        · exact h3
        · rw [List.getElem?_eq_none (by rw [txc_length, hl]; exact h3)] at hj
          cases hj
      have hi : j / 25 < len := by omega
      have e2 : j = j / 25 * 25 + j % 25 := by omega
      have h6 : (((txc ((List.range len).map fun i => (key i).choose)).drop (j / 25 * 25)).take 25)[j % 25]? = some u := by
        rw [List.getElem?_take, if_pos (Nat.mod_lt _ (by decide)), List.getElem?_drop, ← e2]
        exact hj
      rw [txc_at (by rw [hl]; exact hi), hg _ hi, ← (key (j / 25)).choose_spec.2 hi] at h6
      have h5 := (hC (j / 25) hi).2 (j % 25) u h6
      rw [e2]
      exact h5
theorem txs_some {W : World} {ao : Option Addr} {T : List Tx} (h : Rd W ao (txc T)) (h0 : 0 < T.length) : ao.isSome = true := h.isSome fun e => by
  have h8 := txc_length T
  rw [e] at h8
  simp at h8
  omega
section
variable {P : Program} {c : Cx} {l : TL} {H : List Asrt} {Q : Exit → Act → World → Prop} {X : Act → World → Prop}
variable {ty : TypeId} {pos : String} {af : Array Edge} {d : Nat} {v : Value} {dst : Option Tmp} {mm : Nat}
/-- A call of Apply, whatever comes of it. -/
theorem J.apG {f : Nat} [i : Eng.Enters P f] {xs : List Operand} {ts : Array TypeId} {vs : List Value} {s : SS} {L : List Lk} {t : Tx} {pre : World → Prop} (hS : ∀ w, pre w → CSpec P f vs [] w (ApR (apF s L t))) (hd : Nat.blt d c.n = true) (hx : evs l xs = some vs) (hp : RH c.w0 c.own H pre)
    (K : ∀ ap : Ap, apF s L t = ap → ∀ q : Option Addr × Nat, ap.L.length ≤ q.2 → J c ((d, .tuple #[.agg (ap.s.cells (.slice q.1 ap.L.length q.2)).toArray, .int .i64 ap.e, .bool ap.ok]) :: l) (row (.slice q.1 ap.L.length q.2) 56 3 ap.L.length (lcs ap.L) :: H) X) : J c l H (OW P Q ⟨some d, .call ⟨.value (.func f), xs.toArray, ts⟩, ty, pos, af, none⟩ X) :=
  J.apE hS hd hx hp (K _ rfl)
end
end Go.Proofs.Ytljbedladifgmaa.Txl
namespace Go.Proofs.Ytljbedladifgmaa.Kee
open Go Go.RowKit Eng
set_option linter.unusedVariables false
set_option maxRecDepth 100000
set_option linter.unusedSimpArgs false
open Wide Purse Tx Sha Ss Esc Vau Lck Do Prep Ful Doo Tri App Inn Low Gene Alv Deal Mss Ots Hash Bytes
set_option maxHeartbeats 1000000
theorem psum_upd {ms : Nat → Int} {a : Nat} {v : Int} : ∀ n, psum (upd ms a v) n = psum ms n + (if a < n then v - ms a else 0)
  | 0 => by simp [psum]
  | n + 1 => by
    simp only [psum, psum_upd n, upd]
    split <;> split <;> split <;> (first | omega | (subst_vars; omega))
theorem psum_row {ns : Nat → Int} {i k a : Nat} {v : Int} (hk : k < 2) (ha : a < 2) (hi : i < 8) : psum (fun j => upd ns (2 * i + k) v (2 * j + a)) 8 = psum (fun j => ns (2 * j + a)) 8 + (if k = a then v - ns (2 * i + k) else 0) := by
  by_cases e : k = a
  · subst e
    rw [if_pos rfl]
    have h : (fun j => upd ns (2 * i + k) v (2 * j + k)) = upd (fun j => ns (2 * j + k)) i v := by
      funext j
      unfold upd
      split <;> split <;> (first | rfl | omega)
    rw [h, psum_upd, if_pos hi]
  · rw [if_neg e]
    have h : (fun j => upd ns (2 * i + k) v (2 * j + a)) = fun j => ns (2 * j + a) := by
      funext j
      unfold upd
      rw [if_neg (by omega)]
    rw [h]
    omega
/-- All purses, and what is held. -/
def sm (s : SS) (a : Nat) : Int := psum (fun j => s.pu (2 * j + a)) 8 + s.he a
theorem tk_ok {ns : Nat → Int} {i a x : Int} (h : (tkR ns i a x).2 = 0) : (0 ≤ i ∧ i < 8 ∧ 0 ≤ a ∧ a < 2) ∧ x ≤ ns (2 * i.toNat + a.toNat) ∧ (tkR ns i a x).1 = upd ns (2 * i.toNat + a.toNat) (ns (2 * i.toNat + a.toNat) - x) := by
  unfold tkR at h ⊢
  split at h
  · rename_i h1
    split at h
    · rename_i h2
      rw [if_pos h1, if_pos h2]
      exact ⟨inA_iff.1 h1, h2, rfl⟩
    · exact absurd h (by show ¬ (30 : Int) = 0; decide)
  · exact absurd h (by show ¬ (4 : Int) = 0; decide)
theorem gv_ok {ns : Nat → Int} {i a x : Int} (h : (gvR ns i a x).2 = 0) : (0 ≤ i ∧ i < 8 ∧ 0 ≤ a ∧ a < 2) ∧ (gvR ns i a x).1 = upd ns (2 * i.toNat + a.toNat) (ns (2 * i.toNat + a.toNat) + x) := by
  unfold gvR at h ⊢
  split at h
  · rename_i h1
    split at h
    · rename_i h2
      rw [if_pos h1, if_pos h2]
      exact ⟨inA_iff.1 h1, rfl⟩
    · exact absurd h (by show ¬ (38 : Int) = 0; decide)
  · exact absurd h (by show ¬ (4 : Int) = 0; decide)
def wh (x : Int) (k : Int) (a : Nat) : Int := if k.toNat = a then x else 0
theorem takeP_sm {s : SS} {i k x : Int} (h : (takeP s i k x).1 = 0) {a : Nat} (ha : a < 2) : sm (takeP s i k x).2 a = sm s a - wh x k a := by
  obtain ⟨h1, h2, h3⟩ := tk_ok (show (tkR s.pu i k x).2 = 0 from h)
  show psum (fun j => (tkR s.pu i k x).1 (2 * j + a)) 8 + s.he a = _
  rw [h3, psum_row (by omega) ha (by omega)]
  unfold sm wh
  split <;> omega
theorem putP_sm {s : SS} {i k x : Int} (h : (putP s i k x).1 = 0) {a : Nat} (ha : a < 2) : sm (putP s i k x).2 a = sm s a + wh x k a := by
  obtain ⟨h1, h3⟩ := gv_ok (show (gvR s.pu i k x).2 = 0 from h)
  show psum (fun j => (gvR s.pu i k x).1 (2 * j + a)) 8 + s.he a = _
  rw [h3, psum_row (by omega) ha (by omega)]
  unfold sm wh
  split <;> omega
theorem holdH_sm {s : SS} {k x : Int} (h : (holdH s k x).1 = 0) {a : Nat} : sm (holdH s k x).2 a = sm s a + wh x k a := by
  have h1 : s.he k.toNat + x < 115792089237316195423570985008687907853269984665640564039457584007913129639936 := by
    have h2 : (if s.he k.toNat + x < 115792089237316195423570985008687907853269984665640564039457584007913129639936 then (0 : Int) else 38) = 0 := h
    split at h2
    · assumption
    · omega
  show psum (fun j => s.pu (2 * j + a)) 8 + upd s.he k.toNat (wadd (s.he k.toNat) x) a = _
  rw [wadd_lt h1]
  unfold sm wh upd
  split <;> split <;> (first | omega | (subst_vars; omega))
theorem freeH_sm {s : SS} {k x : Int} (h : (freeH s k x).1 = 0) {a : Nat} : sm (freeH s k x).2 a = sm s a - wh x k a := by
  have h1 : x ≤ s.he k.toNat := by
    have h2 : (if x ≤ s.he k.toNat then (0 : Int) else 38) = 0 := h
    split at h2
    · assumption
    · omega
  show psum (fun j => s.pu (2 * j + a)) 8 + upd s.he k.toNat (wsub (s.he k.toNat) x) a = _
  rw [wsub_le h1]
  unfold sm wh upd
  split <;> split <;> (first | omega | (subst_vars; omega))
theorem putV_sm {s : SS} {i k x : Int} {a : Nat} : sm (putV s i k x).2 a = sm s a := rfl
theorem vaultV_sm {s : SS} {i k x : Int} {a : Nat} : sm (vaultV s i k x).2 a = sm s a := rfl
theorem bind_0 {x : Int × SS} {f : SS → Int × SS} (h : (bindE x f).1 = 0) : x.1 = 0 ∧ (f x.2).1 = 0 ∧ (bindE x f).2 = (f x.2).2 := by
  unfold bindE at h ⊢
  split at h
  · rename_i h1
    rw [if_pos h1]
    exact ⟨h1, h, rfl⟩
  · rename_i h1
    exact absurd h h1
theorem moveP_sm {s : SS} {i j k x : Int} (h : (moveP s i j k x).1 = 0) {a : Nat} (ha : a < 2) : sm (moveP s i j k x).2 a = sm s a := by
  have h0 : (mvR s.pu i j k x).2 = 0 := h
  show psum (fun q => (mvR s.pu i j k x).1 (2 * q + a)) 8 + s.he a = sm s a
  unfold mvR at h0 ⊢
  split at h0
  · rename_i h1
    split at h0
    · rename_i h2
      rw [if_pos h1, if_pos h2]
      obtain ⟨g1, g2, g3⟩ := tk_ok h1
      obtain ⟨g4, g5⟩ := gv_ok h2
      rw [g5, g3, psum_row (by omega) ha (by omega), psum_row (by omega) ha (by omega)]
      unfold sm
      split <;> omega
    · rename_i h2
      exact absurd h0 h2
  · rename_i h1
    exact absurd h0 h1
theorem doX_sm {s : SS} {L : List Lk} {t : Tx} (h : (doX s L t).1 = 0) {a : Nat} (ha : a < 2) : sm (doX s L t).2 a = sm s a := by
  unfold doX at h ⊢
  split at h
  · rename_i h1
    rw [if_pos h1]
    exact moveP_sm h ha
  rename_i h1
  rw [if_neg h1]
  split at h
  · rename_i h2
    rw [if_pos h2]
    unfold storeX at h ⊢
    obtain ⟨e1, e2, e3⟩ := bind_0 h
    obtain ⟨e4, e5, e6⟩ := bind_0 e2
    rw [e3, e6, holdH_sm e5, putV_sm, takeP_sm e1 ha]
    omega
  rename_i h2
  rw [if_neg h2]
  split at h
  · rename_i h3
    rw [if_pos h3]
    unfold drawX at h ⊢
    split at h
    · rename_i h4
      rw [if_pos h4]
      obtain ⟨e1, e2, e3⟩ := bind_0 h
      obtain ⟨e4, e5, e6⟩ := bind_0 e2
      rw [e3, e6, freeH_sm e5, putP_sm e4 ha, vaultV_sm]
      omega
    · exact absurd h (by show ¬ (37 : Int) = 0; decide)
  rename_i h3
  rw [if_neg h3]
  split at h
  · rename_i h4
    rw [if_pos h4]
    unfold prepX at h ⊢
    split at h
    · rename_i h5
      rw [if_pos h5]
      split at h
      · rename_i h6
        rw [if_pos h6]
        split at h
        · rename_i h7
          rw [if_pos h7]
          split at h
          · rename_i h8
            rw [if_pos h8]
            exact vaultV_sm
          · exact absurd h (by show ¬ (37 : Int) = 0; decide)
        · rename_i h7
          rw [if_neg h7]
          split at h
          · rename_i h8
            rw [if_pos h8]
            obtain ⟨e1, e2, e3⟩ := bind_0 h
            rw [e3, holdH_sm e2, takeP_sm e1 ha]
            omega
          · exact absurd h (by show ¬ (37 : Int) = 0; decide)
      · exact absurd h (by show ¬ (34 : Int) = 0; decide)
    · exact absurd h (by show ¬ (32 : Int) = 0; decide)
  rename_i h4
  rw [if_neg h4]
  split at h
  · rename_i h5
    rw [if_pos h5]
    unfold fulX at h ⊢
    split at h
    · rename_i h6
      rw [if_pos h6]
      split at h
      · rename_i h7
        rw [if_pos h7]
        split at h
        · rename_i h8
          rw [if_pos h8]
          split at h
          · rename_i h9
            rw [if_pos h9]
            split at h
            · rename_i h10
              rw [if_pos h10]
              obtain ⟨e1, e2, e3⟩ := bind_0 h
              obtain ⟨e4, e5, e6⟩ := bind_0 e2
              rw [e3, e6, freeH_sm e5, putP_sm e4 ha, putP_sm e1 ha, wsub_le h8]
              unfold wh
              split <;> omega
            · rename_i h10
              rw [if_neg h10]
              exact putV_sm
          · exact absurd h (by show ¬ (35 : Int) = 0; decide)
        · exact absurd h (by show ¬ (36 : Int) = 0; decide)
      · exact absurd h (by show ¬ (34 : Int) = 0; decide)
    · rename_i h6
      exact absurd h h6
  rename_i h5
  rw [if_neg h5]
  split at h
  · rename_i h6
    rw [if_pos h6]
    unfold canX at h ⊢
    split at h
    · rename_i h7
      rw [if_pos h7]
      split at h
      · rename_i h8
        rw [if_pos h8]
        split at h
        · rename_i h9
          rw [if_pos h9]
          exact putV_sm
        · exact absurd h (by show ¬ (35 : Int) = 0; decide)
      · rename_i h8
        rw [if_neg h8]
        split at h
        · rename_i h9
          rw [if_pos h9]
          obtain ⟨e1, e2, e3⟩ := bind_0 h
          rw [e3, freeH_sm e2, putP_sm e1 ha]
          omega
        · exact absurd h (by show ¬ (37 : Int) = 0; decide)
    · rename_i h7
      exact absurd h h7
  · rename_i h6
    rw [if_neg h6]
/-- What is done keeps states such as may be. -/
theorem bindE_ok2 {x : Int × SS} {f : SS → Int × SS} (h1 : SOk x.2) (h2 : ∀ s : SS, SOk s → SOk (f s).2) : SOk (bindE x f).2 := by
  unfold bindE
  split
  · exact h2 _ h1
  · exact h1
theorem doX_ok {s : SS} {L : List Lk} {t : Tx} (hs : SOk s) (ht : TOk t) : SOk (doX s L t).2 := by
  unfold doX
  split
  · exact moveP_ok hs ht.am
  split
  · exact bindE_ok2 (takeP_ok hs ht.am) fun s h => bindE_ok2 (putV_ok h ht.am) fun s h => holdH_ok h ht.am
  split
  · unfold drawX
    split
    · exact bindE_ok2 (vaultV_ok hs ht.am) fun s h => bindE_ok2 (putP_ok h ht.am) fun s h => freeH_ok h ht.am
    · exact hs
  split
  · unfold prepX
    repeat' split
    all_goals first
      | exact hs
      | exact vaultV_ok hs ht.va
      | exact bindE_ok2 (takeP_ok hs ht.va) fun s h => holdH_ok h ht.va
  split
  · unfold fulX
    repeat' split
    all_goals first
      | exact hs
      | exact putV_ok hs ht.va
      | exact bindE_ok2 (putP_ok hs (wsub_any _ _ ht.va ht.fee)) fun s h => bindE_ok2 (putP_ok h ht.fee) fun s h => freeH_ok h ht.va
  split
  · unfold canX
    repeat' split
    all_goals first
      | exact hs
      | exact putV_ok hs ht.va
      | exact bindE_ok2 (putP_ok hs ht.va) fun s h => freeH_ok h ht.va
  · exact hs
theorem doL_len (L : List Lk) (t : Tx) : L.length ≤ (doL L t).length ∧ (doL L t).length ≤ L.length + 1 := by
  unfold doL endL
  (repeat' split) <;> simp [prepL, stL_length]
/-- All there is, of an asset. -/
def tot (s : SS) (a : Nat) : Int := sm s a + (if a = 0 then s.bu else 0)
theorem doX_bu (s : SS) (L : List Lk) (t : Tx) : (doX s L t).2.bu = s.bu := by
  have key : ∀ {x : Int × SS} {f : SS → Int × SS} {n : Int}, x.2.bu = n → (∀ s : SS, s.bu = n → (f s).2.bu = n) → (bindE x f).2.bu = n := fun {x f n} h1 h2 => by
    unfold bindE
    split
    · exact h2 _ h1
    · exact h1
  unfold doX
  split
  · rfl
  split
  · exact key rfl fun s h => key h fun s h => h
  split
  · unfold drawX
    split
    · exact key rfl fun s h => key h fun s h => h
    · rfl
  split
  · unfold prepX
    repeat' split
    all_goals first
      | rfl
      | exact key rfl fun s h => h
  split
  · unfold fulX
    repeat' split
    all_goals first
      | rfl
      | exact key rfl fun s h => key h fun s h => h
  split
  · unfold canX
    repeat' split
    all_goals first
      | rfl
      | exact key rfl fun s h => h
  · rfl
theorem s1F_tot {s : SS} {t : Tx} (h : (tkR s.pu t.fr 0 1).2 = 0) (hb : s.bu + 1 < 115792089237316195423570985008687907853269984665640564039457584007913129639936) {a : Nat} (ha : a < 2) : tot (s1F s t) a = tot s a := by
  obtain ⟨h1, h2, h3⟩ := tk_ok h
  show psum (fun j => (tkR s.pu t.fr 0 1).1 (2 * j + a)) 8 + s.he a + (if a = 0 then wadd s.bu 1 else 0) = _
  rw [h3, psum_row (by omega) ha (by omega), wadd_lt hb]
  unfold tot sm
  rcases Nat.lt_or_ge 0 a with h4 | h4
  · rw [if_neg (by show ¬ (0 : Int).toNat = a; simp; omega), if_neg (by omega), if_neg (by omega)]
    omega
  · obtain rfl : a = 0 := by omega
    rw [if_pos rfl, if_pos rfl, if_pos (show (0 : Int).toNat = 0 from rfl)]
    omega
/-- A transaction keeps all there is. -/
theorem ap_keeps {s : SS} {L : List Lk} {t : Tx} {ap : Ap} (e : apF s L t = ap) (hs : SOk s) (ht : TIn t) : SOk ap.s ∧ (∀ a, a < 2 → tot ap.s a = tot s a) ∧ L.length ≤ ap.L.length ∧ ap.L.length ≤ L.length + 1 := by
  subst e
  unfold apF
  split
  · rename_i h1
    have hk := tok_of ht h1
    split
    · split
      · rename_i h3
        have h5 : SOk (s1F s t) := s1F_ok hs
        split
        · rename_i h4
          refine ⟨doX_ok h5 hk, fun a ha => ?_, (doL_len L t).1, (doL_len L t).2⟩
          show tot (doX (s1F s t) L t).2 a = _
          rw [← s1F_tot h3.1 h3.2 ha]
          unfold tot
          rw [doX_sm h4 ha, doX_bu]
        · exact ⟨h5, fun a ha => s1F_tot h3.1 h3.2 ha, Nat.le_refl _, Nat.le_succ _⟩
      · exact ⟨hs, fun a _ => rfl, Nat.le_refl _, Nat.le_succ _⟩
    · exact ⟨hs, fun a _ => rfl, Nat.le_refl _, Nat.le_succ _⟩
  · exact ⟨hs, fun a _ => rfl, Nat.le_refl _, Nat.le_succ _⟩
theorem psum_pos {ns : Nat → Int} (h : ∀ j, Wd (ns j)) : ∀ n, 0 ≤ psum ns n
  | 0 => Int.le_refl _
  | n + 1 => by
    have h1 := psum_pos h n
    have h2 := (h n).1
    simp only [psum]
    omega
theorem gen_tot (side time : Int) {a : Nat} (ha : a < 2) : tot (genS side time) a = 8000 := by
  match a, ha with
  | 0, _ => rfl
  | 1, _ => rfl
  | a + 2, h => omega
end Go.Proofs.Ytljbedladifgmaa.Kee
namespace Go.Proofs.Ytljbedladifgmaa.Whl
open Go Go.RowKit Eng
set_option linter.unusedVariables false
set_option maxRecDepth 100000
set_option linter.unusedSimpArgs false
open Wide Purse Tx Sha Ss Esc Vau Lck Do Prep Ful Doo Tri App Inn Low Gene Alv Kee Txl Deal Mss Ots Hash Bytes
set_option maxHeartbeats 1000000
def pS (s : SS) (a : Nat) : Int := psum (fun j => s.pu (2 * j + a)) 8
theorem tot0 (s : SS) (h : (∀ j, Wd (s.pu j)) ∧ pS s 0 ≤ 8000) (w : World) : CSpec Try.prog 16 [.agg (wvs s.pu 16).toArray, .int .i64 0] [] w (Gives (.tuple [.agg (wv (pS s 0)).toArray, .bool true].toArray)) := by
  have h1 := total_t s.pu 0 ⟨h.1, by decide, by decide⟩ w
  have e : psum (fun j => s.pu (2 * j + Int.toNat 0)) 8 = pS s 0 := rfl
  have h2 := h.2
  have h3 : psum (fun j => s.pu (2 * j + Int.toNat 0)) 8 < 115792089237316195423570985008687907853269984665640564039457584007913129639936 := by rw [e]; omega
  rw [decide_eq_true h3, wcap, if_pos h3] at h1
  exact h1
theorem tot1 (s : SS) (h : (∀ j, Wd (s.pu j)) ∧ pS s 1 ≤ 8000) (w : World) : CSpec Try.prog 16 [.agg (wvs s.pu 16).toArray, .int .i64 1] [] w (Gives (.tuple [.agg (wv (pS s 1)).toArray, .bool true].toArray)) := by
  have h1 := total_t s.pu 1 ⟨h.1, by decide, by decide⟩ w
  have e : psum (fun j => s.pu (2 * j + Int.toNat 1)) 8 = pS s 1 := rfl
  have h2 := h.2
  have h3 : psum (fun j => s.pu (2 * j + Int.toNat 1)) 8 < 115792089237316195423570985008687907853269984665640564039457584007913129639936 := by rw [e]; omega
  rw [decide_eq_true h3, wcap, if_pos h3] at h1
  exact h1
theorem addk (a b : Int) (h : 0 ≤ a ∧ 0 ≤ b ∧ a + b ≤ 8000) (w : World) : CSpec Try.prog 12 [.agg (wv a).toArray, .agg (wv b).toArray] [] w (Gives (.tuple [.agg (wv (a + b)).toArray, .bool true].toArray)) := by
  have h1 := Ref.add_r a b ⟨by unfold Wd; omega, by unfold Wd; omega⟩ w
  rw [wadd_lt (by omega), decide_eq_true (by omega)] at h1
  exact h1
theorem Qr.ldHe0 {c : Cx} {l : TL} {H : List Asrt} {T : Nat} {z : List Value} [i : Ty Try.prog T true 4 z] {x : Operand} {b : Nat} {s : SS} {lv : Value} {E : TypeId} (hx : ev l x = some (.pointer (some ⟨b, 138, none⟩))) (hm : In (blk b (s.cells lv) E) H) : Qr Try.prog c l H (.load T x) (.agg (wv (s.he 0)).toArray) := Qr.loadN hx hm (s.g5a lv (a := 0) (by decide) (by decide)) (by simp [wv_length])
theorem Qr.ldHe1 {c : Cx} {l : TL} {H : List Asrt} {T : Nat} {z : List Value} [i : Ty Try.prog T true 4 z] {x : Operand} {b : Nat} {s : SS} {lv : Value} {E : TypeId} (hx : ev l x = some (.pointer (some ⟨b, 142, none⟩))) (hm : In (blk b (s.cells lv) E) H) : Qr Try.prog c l H (.load T x) (.agg (wv (s.he 1)).toArray) := Qr.loadN hx hm (s.g5a lv (a := 1) (by decide) (by decide)) (by simp [wv_length])
theorem Qv.neW {mm T' : Nat} {x y : Operand} {l : TL} {a b : Int} (hx : ev l x = some (.agg (wv a).toArray)) (hy : ev l y = some (.agg (wv b).toArray)) (h : a = b ∧ Wd b) : Qv Try.prog mm l (.binOp .neq 24 x y T') (.bool false) := by
  obtain ⟨rfl, h⟩ := h
  exact Qv.neqA (r := true) hx hy (by kernel_rfl) (fun w => by simpa using weq a a ⟨h, h⟩ w)
/-- What all there is tells of its parts. -/
theorem tot_parts {s : SS} (hs : SOk s) (h : ∀ a, a < 2 → tot s a = 8000) : (0 ≤ pS s 0 ∧ 0 ≤ s.he 0 ∧ 0 ≤ s.bu ∧ pS s 0 + s.he 0 + s.bu = 8000) ∧ (0 ≤ pS s 1 ∧ 0 ≤ s.he 1 ∧ pS s 1 + s.he 1 = 8000) := by
  have h0 := h 0 (by decide)
  have h1 := h 1 (by decide)
  unfold tot sm at h0 h1
  rw [if_pos rfl] at h0
  rw [if_neg (by decide)] at h1
  exact ⟨⟨psum_pos (fun j => hs.pu _) 8, (hs.he 0).1, hs.bu.1, h0⟩, ⟨psum_pos (fun j => hs.pu _) 8, (hs.he 1).1, by have h2 : pS s 1 + s.he 1 + 0 = 8000 := h1; omega⟩⟩
theorem whole (wh : Bool) (tm : Int) (ao : Option Addr) (cap : Nat) (T : List Tx) (w : World) (hw : Rd w ao (txc T) ∧ TsIn T ∧ T.length ≤ maxLen) : CSpec Try.prog 5 [.bool wh, .int .i64 tm, .slice ao T.length cap] [] w (Gives (.bool true)) := by
  obtain ⟨hr, hT, hm⟩ := hw
  have hm9 : T.length ≤ 9223372036854775807 := by unfold maxLen at hm; omega
  have hao : 0 < T.length → ao.isSome = true := txs_some hr
  refine spec_own0 Try.func5 rfl Try.ntmps5 rfl (l0 := [(0, .bool wh), (1, .int .i64 tm), (2, .slice ao T.length cap)]) rfl ?_
  repeat' first
    | ((with_reducible apply J.storeFull); exact rfl; exact rfl; (repeat (first | with_reducible exact Upd.here | with_reducible apply Upd.there)); (with_reducible exact SS.len _ _); (focus (first | (with_reducible exact SS.len _ _) | kernel_rfl)); with_reducible exact SS.ones _ _ _ _)
    | ((with_reducible apply J.givesW (alive12)); exact rfl; exact rfl)
    | ((with_reducible apply J.givesW (gen_ _ _)); exact rfl; exact rfl)
    | refine J.one ?_
    | refine J.loudS ?_
    | (refine J.loudQ ?_; intro _ _)
    | (refine J.loudB ?_; intro _)
    | (with_reducible apply J.list)
    | ((with_reducible apply J.draw (id := 10) [0, 0, 0, 6, 14, 31, 63, 127, 127, 127, 255] (.q 0 (.p 1 (.p 2 (.p 3 (.q 4 (.x 5 (.p 6 (.p 7 (.p 8 (.p 9 (.x 10 .nil .none))))) .none)))))) (by kernel_rfl) ?_ (by kernel_rfl) ?_); (repeat (with_reducible first | exact PanicFree.body | exact PanicFree.np | exact PanicFree.lvS | apply PanicFree.then_ | apply PanicFree.blk)))
    | ((with_reducible apply J.draw (id := 15) [0, 0, 0, 6, 14, 31, 63, 127, 127, 255, 1023] (.q 0 (.p 1 (.p 2 (.p 3 (.q 4 (.x 5 (.p 6 (.p 7 (.p 8 (.x 9 (.p 10 .nil) .none)))) .none)))))) (by kernel_rfl) ?_ (by kernel_rfl) ?_); (repeat (with_reducible first | exact PanicFree.body | exact PanicFree.np | exact PanicFree.lvS | apply PanicFree.then_ | apply PanicFree.blk)))
    | ((with_reducible apply J.pl2); exact rfl; (first | exact Gd.none | ((with_reducible apply Gd.on); exact rfl; exact rfl)); (repeat (first | (with_reducible exact PendF.nil) | ((with_reducible apply PendF.keep); exact rfl) | ((with_reducible apply PendF.gone); exact rfl))))
    | ((with_reducible apply J.pl2_off); exact rfl; ((with_reducible apply Gd.off); exact rfl; exact rfl; exact rfl); exact rfl; (repeat (first | (with_reducible exact PendF.nil) | ((with_reducible apply PendF.keep); exact rfl) | ((with_reducible apply PendF.gone); exact rfl))))
    | ((with_reducible apply J.pl2_off_none); exact rfl; ((with_reducible apply Gd.off); exact rfl; exact rfl; exact rfl); (repeat (first | (with_reducible exact PendF.nil) | ((with_reducible apply PendF.keep); exact rfl) | ((with_reducible apply PendF.gone); exact rfl))))
    | ((with_reducible first | apply J.psplit0 | apply J.psplit1 | apply J.psplit2); exact rfl; exact rfl; exact rfl)
    | (with_reducible exact J.pl_none)
    | ((with_reducible apply J.gsplit); exact rfl; exact rfl)
    | ((with_reducible first | apply J.cond | apply JC.cond); exact rfl)
    | (intro h; exfalso; (first | (simp at h; done) | omega))
    | (intro h; (try simp only [decide_eq_true_eq, decide_eq_false_iff_not, beq_iff_eq, beq_eq_false_iff_ne, Bool.not_eq_true', Bool.not_eq_false', bne_iff_ne, bne_eq_false_iff_eq, ne_eq, ge_iff_le, gt_iff_lt] at h))
    | (with_reducible apply J.gave')
    | ((with_reducible apply J.kept'); rotate_left; (repeat (first | (with_reducible exact Outs.nil) | ((with_reducible apply Outs.cons); (repeat (first | with_reducible exact Out.here | with_reducible apply Out.there))))))
  all_goals
    rename_i b8
    obtain ⟨s0, e0, hs0, ht0⟩ : ∃ s0 : SS, s0 = _ ∧ SOk s0 ∧ (∀ a, a < 2 → tot s0 a = 8000) := ⟨genS _ tm, rfl, gen_ok _ _, fun a ha => gen_tot _ _ ha⟩
    refine J.nilRowC 56 3 (lcs []) rfl ?_
    obtain ⟨L0, hL0⟩ : ∃ L0 : List Lk, L0 = [] := ⟨_, rfl⟩
    apply J.reB (b := b8) (C' := s0.cells (.slice none L0.length 0))
    · (repeat (first | with_reducible exact Upd.here | with_reducible apply Upd.there))
    · rw [e0, hL0]; rfl
    apply J.reR (E := 56) (v := .slice none 0 0) (n := 0) (C := lcs []) (v' := .slice none L0.length 0) (n' := L0.length) (C' := lcs L0)
    · (repeat (first | with_reducible exact Upd.here | with_reducible apply Upd.there))
    · rw [hL0]; rfl
    · rw [hL0]; rfl
    · rw [hL0]
    apply J.loopI (σ := Nat × SS × List Lk × (Option Addr × Nat)) (I := fun x => x.1 ≤ T.length ∧ x.1 ≤ 40 ∧ SOk x.2.1 ∧ (∀ a, a < 2 → tot x.2.1 a = 8000) ∧ x.2.2.1.length ≤ x.1) (L := fun x => [(2, .slice ao T.length cap), (8, .pointer (some ⟨b8, 0, none⟩)), (9, .int .i64 (x.1 : Int))]) (HH := fun x => [row (.slice x.2.2.2.1 x.2.2.1.length x.2.2.2.2) 56 3 x.2.2.1.length (lcs x.2.2.1), blk b8 (x.2.1.cells (.slice x.2.2.2.1 x.2.2.1.length x.2.2.2.2)) 31]) (m := fun x => T.length - x.1) (s0 := (0, s0, L0, (none, 0)))
    · ((try dsimp only); (exact ⟨Nat.zero_le _, Nat.zero_le _, hs0, ht0, by rw [hL0]; exact Nat.zero_le _⟩))
    · ((try dsimp only); repeat (first | exact sub.nil _ | (refine sub.consE rfl ?_ ?_; (first | with_reducible rfl | (fail) | rfl))))
    · ((try dsimp only); (repeat (first | (with_reducible exact Outs.nil) | ((with_reducible apply Outs.cons); (repeat (first | with_reducible exact Out.here | with_reducible apply Out.there))))))
    rintro ⟨i, s, L, q⟩ ⟨hi, hi4, hs, ht, hL⟩
    try dsimp only at *
    repeat' first
      | (with_reducible refine J.rounds 3 ?_)
      | (with_reducible apply J.round)
      | (refine J.qv ?_; (with_reducible apply exq); focus (first
        | ((with_reducible apply Qv.indexSrcs (k := i)); exact rfl; exact rfl; (focus omega); (focus omega); exact hao (by omega))
        | ((with_reducible apply Qv.neW); exact rfl; exact rfl; exact ⟨by omega, wd_n (by decide) (by decide)⟩)
        | ((with_reducible apply Qv.buildW); exact rfl; exact rfl; (first | with_reducible assumption | (unfold Wo; omega) | (simp only [Wd, Wo] at *; omega)))
        | ((with_reducible apply Qv.buildW0); exact rfl; exact rfl)))
      | (refine J.qr ?_; (with_reducible apply exq); focus (first
        | ((with_reducible apply Qr.rdN (C := txc T) (j := i * 25) (cs := (T.getD i tx0).cells)); exact rfl; exact RH.old hr; exact txc_at (by omega); exact rfl)
        | ((with_reducible apply Qr.ldPu); exact rfl; (focus ((repeat (first | with_reducible exact In.here | with_reducible apply In.there)); done)))
        | ((with_reducible apply Qr.ldBu); exact rfl; (focus ((repeat (first | with_reducible exact In.here | with_reducible apply In.there)); done)))
        | ((with_reducible apply Qr.ldHe0); exact rfl; (focus ((repeat (first | with_reducible exact In.here | with_reducible apply In.there)); done)))
        | ((with_reducible apply Qr.ldHe1); exact rfl; (focus ((repeat (first | with_reducible exact In.here | with_reducible apply In.there)); done)))
        | ((with_reducible apply Qr.loadFull); exact rfl; (focus ((repeat (first | with_reducible exact In.here | with_reducible apply In.there)); done)); (first | (with_reducible first | exact SS.len _ _ | exact wv_length _) | exact rfl))))
      | (refine J.qo ?_; refine ⟨?_, ?_⟩; focus (first
        | ((with_reducible apply Qr.rdN (C := txc T) (j := i * 25) (cs := (T.getD i tx0).cells)); exact rfl; exact RH.old hr; exact txc_at (by omega); exact rfl)
        | ((with_reducible apply Qr.ldPu); exact rfl; (focus ((repeat (first | with_reducible exact In.here | with_reducible apply In.there)); done)))
        | ((with_reducible apply Qr.ldBu); exact rfl; (focus ((repeat (first | with_reducible exact In.here | with_reducible apply In.there)); done)))
        | ((with_reducible apply Qr.ldHe0); exact rfl; (focus ((repeat (first | with_reducible exact In.here | with_reducible apply In.there)); done)))
        | ((with_reducible apply Qr.ldHe1); exact rfl; (focus ((repeat (first | with_reducible exact In.here | with_reducible apply In.there)); done)))
        | ((with_reducible apply Qr.loadFull); exact rfl; (focus ((repeat (first | with_reducible exact In.here | with_reducible apply In.there)); done)); (first | (with_reducible first | exact SS.len _ _ | exact wv_length _) | exact rfl))))
      | ((with_reducible apply J.storeFull); exact rfl; exact rfl; (repeat (first | with_reducible exact Upd.here | with_reducible apply Upd.there)); (with_reducible exact SS.len _ _); (focus (first | (with_reducible exact SS.len _ _) | kernel_rfl)); with_reducible exact SS.ones _ _ _ _)
      | ((with_reducible apply J.allocW); exact rfl; exact rfl; intro _)
      | ((with_reducible apply J.apG (apply_ s _ _ L (T.getD i tx0))); exact rfl; exact rfl; (exact RH.and (RH.row (by (repeat (first | with_reducible exact In.here | with_reducible apply In.there)))) (RH.of ⟨hs, (hT.get i).i, by unfold maxLen; omega, by omega⟩)); intro ap hap q9 hq9; obtain ⟨k1, k2, k3, k4⟩ := ap_keeps hap hs (hT.get i).i; have k5 := fun a (ha : a < 2) => (k2 a ha).trans (ht a ha); obtain ⟨⟨p1, p2, p3, p4⟩, p5, p6, p7⟩ := tot_parts k1 k5)
      | ((with_reducible apply J.givesP (tot0 _)); exact rfl; exact rfl; (exact ⟨k1.pu, by omega⟩))
      | ((with_reducible apply J.givesP (tot1 _)); exact rfl; exact rfl; (exact ⟨k1.pu, by omega⟩))
      | ((with_reducible apply J.givesP (addk _ _)); exact rfl; exact rfl; (refine ⟨?_, ?_, ?_⟩ <;> omega))
      | refine J.one ?_
      | refine J.loudS ?_
      | (refine J.loudQ ?_; intro _ _)
      | (refine J.loudB ?_; intro _)
      | (with_reducible apply J.list)
      | ((with_reducible apply J.draw (id := 10) [0, 0, 0, 6, 14, 31, 63, 127, 127, 127, 255] (.q 0 (.p 1 (.p 2 (.p 3 (.q 4 (.x 5 (.p 6 (.p 7 (.p 8 (.p 9 (.x 10 .nil .none))))) .none)))))) (by kernel_rfl) ?_ (by kernel_rfl) ?_); (repeat (with_reducible first | exact PanicFree.body | exact PanicFree.np | exact PanicFree.lvS | apply PanicFree.then_ | apply PanicFree.blk)))
      | ((with_reducible apply J.draw (id := 15) [0, 0, 0, 6, 14, 31, 63, 127, 127, 255, 1023] (.q 0 (.p 1 (.p 2 (.p 3 (.q 4 (.x 5 (.p 6 (.p 7 (.p 8 (.x 9 (.p 10 .nil) .none)))) .none)))))) (by kernel_rfl) ?_ (by kernel_rfl) ?_); (repeat (with_reducible first | exact PanicFree.body | exact PanicFree.np | exact PanicFree.lvS | apply PanicFree.then_ | apply PanicFree.blk)))
      | ((with_reducible apply J.pl2); exact rfl; (first | exact Gd.none | ((with_reducible apply Gd.on); exact rfl; exact rfl)); (repeat (first | (with_reducible exact PendF.nil) | ((with_reducible apply PendF.keep); exact rfl) | ((with_reducible apply PendF.gone); exact rfl))))
      | ((with_reducible apply J.pl2_off); exact rfl; ((with_reducible apply Gd.off); exact rfl; exact rfl; exact rfl); exact rfl; (repeat (first | (with_reducible exact PendF.nil) | ((with_reducible apply PendF.keep); exact rfl) | ((with_reducible apply PendF.gone); exact rfl))))
      | ((with_reducible apply J.pl2_off_none); exact rfl; ((with_reducible apply Gd.off); exact rfl; exact rfl; exact rfl); (repeat (first | (with_reducible exact PendF.nil) | ((with_reducible apply PendF.keep); exact rfl) | ((with_reducible apply PendF.gone); exact rfl))))
      | ((with_reducible first | apply J.psplit0 | apply J.psplit1 | apply J.psplit2); exact rfl; exact rfl; exact rfl)
      | (with_reducible exact J.pl_none)
      | ((with_reducible apply J.gsplit); exact rfl; exact rfl)
      | ((with_reducible first | apply J.cond | apply JC.cond); exact rfl)
      | (intro h; exfalso; (first | (simp at h; done) | omega))
      | (intro h; (try simp only [decide_eq_true_eq, decide_eq_false_iff_not, beq_iff_eq, beq_eq_false_iff_ne, Bool.not_eq_true', Bool.not_eq_false', bne_iff_ne, bne_eq_false_iff_eq, ne_eq, ge_iff_le, gt_iff_lt] at h))
      | (with_reducible apply J.gave')
      | ((with_reducible apply J.kept'); rotate_left; (repeat (first | (with_reducible exact Outs.nil) | ((with_reducible apply Outs.cons); (repeat (first | with_reducible exact Out.here | with_reducible apply Out.there))))))
    all_goals first
      | rfl
      | (apply J.againI (s := (i, s, L, q)) (s' := (i + 1, ap.s, ap.L, q9)); (focus (((try dsimp only) <;> omega))); (focus ((try dsimp only); (exact ⟨by omega, by omega, k1, k5, by omega⟩))); (focus (((try dsimp only); repeat (first | exact sub.nil _ | (refine sub.consE rfl ?_ ?_; (first | with_reducible rfl | ((focus (congr 1; omega))) | rfl)))))); ((try dsimp only); (repeat (first | (with_reducible exact Outs.nil) | ((with_reducible apply Outs.cons); (repeat (first | with_reducible exact Out.here | with_reducible apply Out.there)))))))
      | (trace_state; fail)
theorem EscrowWhole {r : Reach} {b0 : Nat} {H : Type} {enc : TypeId × Value → H} {spare : Nat → Bool} {held : Bool} {d : DataW H} {p : List MemPlace} (wh : Bool) (tm : Int) (v : Value) (W : World) (g2 : (Lit.int .i64 tm).wf = true) (o : Value.okWide Try.prog W r b0 58 v) (t : DataW.Trod enc Try.prog W 0 spare held 58 v d p) :
    Calls Try.prog 5 #[.bool wh, .int .i64 tm, v] W fun e w' => e = .returned (.bool true) ∧ Below W.heap.size W w' := by
  obtain ⟨ao, T, cap, rfl, h1, h2, h3, h4⟩ := reads_txs (in_slice (L := txsh) (k := 6) (e := 37) rfl o t (by kernel_rfl))
  exact (whole wh tm ao cap T W ⟨h4, h3, by omega⟩).below
end Go.Proofs.Ytljbedladifgmaa.Whl
