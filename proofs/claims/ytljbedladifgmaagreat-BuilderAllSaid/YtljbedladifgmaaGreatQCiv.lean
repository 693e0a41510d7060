/-
  What is so of a ledger, whatever is done. No conditions.
-/
import Derived.Test.YtljbedladifgmaaGreatQAlv
import Derived.Test.YtljbedladifgmaaGreatQRd
namespace Go.Proofs.YtljbedladifgmaaGreat.Txl
open Go Go.RowKit Eng
set_option linter.unusedVariables false
set_option maxRecDepth 100000
set_option linter.unusedSimpArgs false
open Wide Purse Tx Sha Ss Esc Vau Lck Do Prep Ful Doo Tri App Inn Low Gene Alv Deal Mss Ots Hash Bytes
set_option maxHeartbeats 1000000
def tx0 : Tx := ⟨0, 0, 0, 0, 0, 0, [], 0, 0, 0, 0, [], 0, 0, 0, []⟩
def txc (T : List Tx) : List Value := (T.map Tx.cells).flatten
theorem txc_length : ∀ T : List Tx, (txc T).length = T.length * 25
  | [] => rfl
  | k :: L => by
    have h := txc_length L
    unfold txc at h ⊢
    rw [List.map_cons, List.flatten_cons, List.length_append, h, show k.cells.length = 25 from rfl, List.length_cons]
    omega
theorem txc_at : ∀ {T : List Tx} {i : Nat}, i < T.length → ((txc T).drop (i * 25)).take 25 = (T.getD i tx0).cells
  | k :: L, 0, _ => by
    have e : txc (k :: L) = k.cells ++ txc L := rfl
    rw [e, Nat.zero_mul, List.drop_zero]
    exact List.take_left' rfl
  | k :: L, i + 1, h => by
    have h2 := txc_at (T := L) (i := i) (by simpa using h)
    have e : txc (k :: L) = k.cells ++ txc L := rfl
    rw [e, show (i + 1) * 25 = k.cells.length + i * 25 by show _ = 25 + _; omega, List.drop_append, List.drop_eq_nil_of_le (by omega), List.nil_append, show k.cells.length + i * 25 - k.cells.length = i * 25 by omega, h2]
    rfl
theorem txc_ones : ∀ T : List Tx, (txc T).all (·.oneCell') = true
  | [] => rfl
  | k :: L => by
    have h := txc_ones L
    have e : txc (k :: L) = k.cells ++ txc L := rfl
    rw [e, List.all_append, h]
    rfl
/-- Transactions that come in. -/
structure TX (t : Tx) : Prop where
  i : TIn t
  n : TNum t
def TsIn (T : List Tx) : Prop := ∀ t, t ∈ T → TX t
theorem i64_0 : I64 0 := i64_of (by decide) (by decide)
theorem tx0_in : TX tx0 := ⟨⟨⟨wd_n (by decide) (by decide), wd_n (by decide) (by decide), Nat.zero_le _, Nat.zero_le _, Nat.zero_le _⟩, wd_n (by decide) (by decide)⟩, ⟨i64_0, i64_0, i64_0, i64_0, i64_0, i64_0, i64_0, i64_0, i64_0, i64_0⟩⟩
theorem TsIn.get {T : List Tx} (h : TsIn T) (i : Nat) : TX (T.getD i tx0) := by
  rcases Nat.lt_or_ge i T.length with h1 | h1
  · rw [List.getD_eq_getElem?_getD, List.getElem?_eq_getElem h1]
    exact h _ (List.getElem_mem h1)
  · rw [List.getD_eq_getElem?_getD, List.getElem?_eq_none h1]
    exact tx0_in
theorem reads_txs {W : World} {v : Value} (h : Sh.Reads W (.sl txsh) v) : ∃ (ao : Option Addr) (T : List Tx) (cap : Nat), v = .slice ao T.length cap ∧ T.length ≤ cap ∧ cap ≤ maxLen ∧ TsIn T ∧ Rd W ao (txc T) := by
  simp only [Sh.Reads] at h
  rcases h with rfl | ⟨a, len, cap, rfl, h1, h2, C, hC⟩
  · exact ⟨none, [], 0, rfl, Nat.le_refl _, Nat.zero_le _, fun k hk => (by cases hk), Rd.nil _ _⟩
  · have key : ∀ i, ∃ k : Tx, TX k ∧ (i < len → C i = k.cells) := fun i => by
      rcases Nat.lt_or_ge i len with h3 | h3
      · obtain ⟨k, hk, hn, e⟩ := reads_tx (hC i h3).1
        exact ⟨k, ⟨hk, hn⟩, fun _ => e⟩
      · exact ⟨tx0, tx0_in, fun h4 => by omega⟩
    have hl : ((List.range len).map fun i => (key i).choose).length = len := by simp
    have hg : ∀ i, i < len → ((List.range len).map fun i => (key i).choose).getD i tx0 = (key i).choose := fun i hi => by
      rw [List.getD_eq_getElem?_getD, List.getElem?_map, List.getElem?_range hi]
      rfl
    refine ⟨some a, (List.range len).map fun i => (key i).choose, cap, by rw [hl], by rw [hl]; exact h1, h2, ?_, ?_⟩
    · intro k hk
      obtain ⟨i, _, rfl⟩ := List.mem_map.1 hk
      exact (key i).choose_spec.1
    · refine Rd.some_ fun j u hj => ?_
      have hjl : j < len * 25 := by
        rcases Nat.lt_or_ge j (len * 25) with h3 | h3
        · exact h3
        · rw [List.getElem?_eq_none (by rw [txc_length, hl]; exact h3)] at hj
          cases hj
      have hi : j / 25 < len := by omega
      have e2 : j = j / 25 * 25 + j % 25 := by omega
      have h6 : (((txc ((List.range len).map fun i => (key i).choose)).drop (j / 25 * 25)).take 25)[j % 25]? = some u := by
        rw [List.getElem?_take, if_pos (Nat.mod_lt _ (by decide)), List.getElem?_drop, ← e2]
        exact hj
      rw [txc_at (by rw [hl]; exact hi), hg _ hi, ← (key (j / 25)).choose_spec.2 hi] at h6
      have h5 := (hC (j / 25) hi).2 (j % 25) u h6
      rw [e2]
      exact h5
theorem txs_some {W : World} {ao : Option Addr} {T : List Tx} (h : Rd W ao (txc T)) (h0 : 0 < T.length) : ao.isSome = true := h.isSome fun e => by
  have h8 := txc_length T
  rw [e] at h8
  simp at h8
  omega
section
variable {P : Program} {c : Cx} {l : TL} {H : List Asrt} {Q : Exit → Act → World → Prop} {X : Act → World → Prop}
variable {ty : TypeId} {pos : String} {af : Array Edge} {d : Nat} {v : Value} {dst : Option Tmp} {mm : Nat}
/-- A call of Apply, whatever comes of it. -/
theorem J.apG {f : Nat} [i : Eng.Enters P f] {xs : List Operand} {ts : Array TypeId} {vs : List Value} {s : SS} {L : List Lk} {t : Tx} {pre : World → Prop} (hS : ∀ w, pre w → CSpec P f vs [] w (ApR (apF s L t))) (hd : Nat.blt d c.n = true) (hx : evs l xs = some vs) (hp : RH c.w0 c.own H pre)
    (K : ∀ ap : Ap, apF s L t = ap → ∀ q : Option Addr × Nat, ap.L.length ≤ q.2 → J c ((d, .tuple #[.agg (ap.s.cells (.slice q.1 ap.L.length q.2)).toArray, .int .i64 ap.e, .bool ap.ok]) :: l) (row (.slice q.1 ap.L.length q.2) 58 3 ap.L.length (lcs ap.L) :: H) X) : J c l H (OW P Q ⟨some d, .call ⟨.value (.func f), xs.toArray, ts⟩, ty, pos, af, none⟩ X) :=
  J.apE hS hd hx hp (K _ rfl)
end
end Go.Proofs.YtljbedladifgmaaGreat.Txl
namespace Go.Proofs.YtljbedladifgmaaGreat.Kee
open Go Go.RowKit Eng
set_option linter.unusedVariables false
set_option maxRecDepth 100000
set_option linter.unusedSimpArgs false
open Wide Purse Tx Sha Ss Esc Vau Lck Do Prep Ful Doo Tri App Inn Low Gene Alv Deal Mss Ots Hash Bytes
set_option maxHeartbeats 1000000
theorem psum_upd {ms : Nat → Int} {a : Nat} {v : Int} : ∀ n, psum (upd ms a v) n = psum ms n + (if a < n then v - ms a else 0)
  | 0 => by simp [psum]
  | n + 1 => by
    simp only [psum, psum_upd n, upd]
    split <;> split <;> split <;> (first | omega | (subst_vars; omega))
theorem psum_row {ns : Nat → Int} {i k a : Nat} {v : Int} (hk : k < 2) (ha : a < 2) (hi : i < 8) : psum (fun j => upd ns (2 * i + k) v (2 * j + a)) 8 = psum (fun j => ns (2 * j + a)) 8 + (if k = a then v - ns (2 * i + k) else 0) := by
  by_cases e : k = a
  · subst e
    rw [if_pos rfl]
    have h : (fun j => upd ns (2 * i + k) v (2 * j + k)) = upd (fun j => ns (2 * j + k)) i v := by
      funext j
      unfold upd
      split <;> split <;> (first | rfl | omega)
    rw [h, psum_upd, if_pos hi]
  · rw [if_neg e]
    have h : (fun j => upd ns (2 * i + k) v (2 * j + a)) = fun j => ns (2 * j + a) := by
      funext j
      unfold upd
      rw [if_neg (by omega)]
    rw [h]
    omega
/-- All purses, and what is held. -/
def sm (s : SS) (a : Nat) : Int := psum (fun j => s.pu (2 * j + a)) 8 + s.he a
theorem tk_ok {ns : Nat → Int} {i a x : Int} (h : (tkR ns i a x).2 = 0) : (0 ≤ i ∧ i < 8 ∧ 0 ≤ a ∧ a < 2) ∧ x ≤ ns (2 * i.toNat + a.toNat) ∧ (tkR ns i a x).1 = upd ns (2 * i.toNat + a.toNat) (ns (2 * i.toNat + a.toNat) - x) := by
  unfold tkR at h ⊢
  split at h
  · rename_i h1
    split at h
    · rename_i h2
      rw [if_pos h1, if_pos h2]
      exact ⟨inA_iff.1 h1, h2, rfl⟩
    · exact absurd h (by show ¬ (30 : Int) = 0; decide)
  · exact absurd h (by show ¬ (4 : Int) = 0; decide)
theorem gv_ok {ns : Nat → Int} {i a x : Int} (h : (gvR ns i a x).2 = 0) : (0 ≤ i ∧ i < 8 ∧ 0 ≤ a ∧ a < 2) ∧ (gvR ns i a x).1 = upd ns (2 * i.toNat + a.toNat) (ns (2 * i.toNat + a.toNat) + x) := by
  unfold gvR at h ⊢
  split at h
  · rename_i h1
    split at h
    · rename_i h2
      rw [if_pos h1, if_pos h2]
      exact ⟨inA_iff.1 h1, rfl⟩
    · exact absurd h (by show ¬ (38 : Int) = 0; decide)
  · exact absurd h (by show ¬ (4 : Int) = 0; decide)
def wh (x : Int) (k : Int) (a : Nat) : Int := if k.toNat = a then x else 0
theorem takeP_sm {s : SS} {i k x : Int} (h : (takeP s i k x).1 = 0) {a : Nat} (ha : a < 2) : sm (takeP s i k x).2 a = sm s a - wh x k a := by
  obtain ⟨h1, h2, h3⟩ := tk_ok (show (tkR s.pu i k x).2 = 0 from h)
  show psum (fun j => (tkR s.pu i k x).1 (2 * j + a)) 8 + s.he a = _
  rw [h3, psum_row (by omega) ha (by omega)]
  unfold sm wh
  split <;> omega
theorem putP_sm {s : SS} {i k x : Int} (h : (putP s i k x).1 = 0) {a : Nat} (ha : a < 2) : sm (putP s i k x).2 a = sm s a + wh x k a := by
  obtain ⟨h1, h3⟩ := gv_ok (show (gvR s.pu i k x).2 = 0 from h)
  show psum (fun j => (gvR s.pu i k x).1 (2 * j + a)) 8 + s.he a = _
  rw [h3, psum_row (by omega) ha (by omega)]
  unfold sm wh
  split <;> omega
theorem holdH_sm {s : SS} {k x : Int} (h : (holdH s k x).1 = 0) {a : Nat} : sm (holdH s k x).2 a = sm s a + wh x k a := by
  have h1 : s.he k.toNat + x < 115792089237316195423570985008687907853269984665640564039457584007913129639936 := by
    have h2 : (if s.he k.toNat + x < 115792089237316195423570985008687907853269984665640564039457584007913129639936 then (0 : Int) else 38) = 0 := h
    split at h2
    · assumption
    · omega
  show psum (fun j => s.pu (2 * j + a)) 8 + upd s.he k.toNat (wadd (s.he k.toNat) x) a = _
  rw [wadd_lt h1]
  unfold sm wh upd
  split <;> split <;> (first | omega | (subst_vars; omega))
theorem freeH_sm {s : SS} {k x : Int} (h : (freeH s k x).1 = 0) {a : Nat} : sm (freeH s k x).2 a = sm s a - wh x k a := by
  have h1 : x ≤ s.he k.toNat := by
    have h2 : (if x ≤ s.he k.toNat then (0 : Int) else 38) = 0 := h
    split at h2
    · assumption
    · omega
  show psum (fun j => s.pu (2 * j + a)) 8 + upd s.he k.toNat (wsub (s.he k.toNat) x) a = _
  rw [wsub_le h1]
  unfold sm wh upd
  split <;> split <;> (first | omega | (subst_vars; omega))
theorem putV_sm {s : SS} {i k x : Int} {a : Nat} : sm (putV s i k x).2 a = sm s a := rfl
theorem vaultV_sm {s : SS} {i k x : Int} {a : Nat} : sm (vaultV s i k x).2 a = sm s a := rfl
theorem bind_0 {x : Int × SS} {f : SS → Int × SS} (h : (bindE x f).1 = 0) : x.1 = 0 ∧ (f x.2).1 = 0 ∧ (bindE x f).2 = (f x.2).2 := by
  unfold bindE at h ⊢
  split at h
  · rename_i h1
    rw [if_pos h1]
    exact ⟨h1, h, rfl⟩
  · rename_i h1
    exact absurd h h1
theorem moveP_sm {s : SS} {i j k x : Int} (h : (moveP s i j k x).1 = 0) {a : Nat} (ha : a < 2) : sm (moveP s i j k x).2 a = sm s a := by
  have h0 : (mvR s.pu i j k x).2 = 0 := h
  show psum (fun q => (mvR s.pu i j k x).1 (2 * q + a)) 8 + s.he a = sm s a
  unfold mvR at h0 ⊢
  split at h0
  · rename_i h1
    split at h0
    · rename_i h2
      rw [if_pos h1, if_pos h2]
      obtain ⟨g1, g2, g3⟩ := tk_ok h1
      obtain ⟨g4, g5⟩ := gv_ok h2
      rw [g5, g3, psum_row (by omega) ha (by omega), psum_row (by omega) ha (by omega)]
      unfold sm
      split <;> omega
    · rename_i h2
      exact absurd h0 h2
  · rename_i h1
    exact absurd h0 h1
theorem doX_sm {s : SS} {L : List Lk} {t : Tx} (h : (doX s L t).1 = 0) {a : Nat} (ha : a < 2) : sm (doX s L t).2 a = sm s a := by
  unfold doX at h ⊢
  split at h
  · rename_i h1
    rw [if_pos h1]
    exact moveP_sm h ha
  rename_i h1
  rw [if_neg h1]
  split at h
  · rename_i h2
    rw [if_pos h2]
    unfold storeX at h ⊢
    obtain ⟨e1, e2, e3⟩ := bind_0 h
    obtain ⟨e4, e5, e6⟩ := bind_0 e2
    rw [e3, e6, holdH_sm e5, putV_sm, takeP_sm e1 ha]
    omega
  rename_i h2
  rw [if_neg h2]
  split at h
  · rename_i h3
    rw [if_pos h3]
    unfold drawX at h ⊢
    split at h
    · rename_i h4
      rw [if_pos h4]
      obtain ⟨e1, e2, e3⟩ := bind_0 h
      obtain ⟨e4, e5, e6⟩ := bind_0 e2
      rw [e3, e6, freeH_sm e5, putP_sm e4 ha, vaultV_sm]
      omega
    · exact absurd h (by show ¬ (37 : Int) = 0; decide)
  rename_i h3
  rw [if_neg h3]
  split at h
  · rename_i h4
    rw [if_pos h4]
    unfold prepX at h ⊢
    split at h
    · rename_i h5
      rw [if_pos h5]
      split at h
      · rename_i h6
        rw [if_pos h6]
        split at h
        · rename_i h7
          rw [if_pos h7]
          split at h
          · rename_i h8
            rw [if_pos h8]
            exact vaultV_sm
          · exact absurd h (by show ¬ (37 : Int) = 0; decide)
        · rename_i h7
          rw [if_neg h7]
          split at h
          · rename_i h8
            rw [if_pos h8]
            obtain ⟨e1, e2, e3⟩ := bind_0 h
            rw [e3, holdH_sm e2, takeP_sm e1 ha]
            omega
          · exact absurd h (by show ¬ (37 : Int) = 0; decide)
      · exact absurd h (by show ¬ (34 : Int) = 0; decide)
    · exact absurd h (by show ¬ (32 : Int) = 0; decide)
  rename_i h4
  rw [if_neg h4]
  split at h
  · rename_i h5
    rw [if_pos h5]
    unfold fulX at h ⊢
    split at h
    · rename_i h6
      rw [if_pos h6]
      split at h
      · rename_i h7
        rw [if_pos h7]
        split at h
        · rename_i h8
          rw [if_pos h8]
          split at h
          · rename_i h9
            rw [if_pos h9]
            split at h
            · rename_i h10
              rw [if_pos h10]
              obtain ⟨e1, e2, e3⟩ := bind_0 h
              obtain ⟨e4, e5, e6⟩ := bind_0 e2
              rw [e3, e6, freeH_sm e5, putP_sm e4 ha, putP_sm e1 ha, wsub_le h8]
              unfold wh
              split <;> omega
            · rename_i h10
              rw [if_neg h10]
              exact putV_sm
          · exact absurd h (by show ¬ (35 : Int) = 0; decide)
        · exact absurd h (by show ¬ (36 : Int) = 0; decide)
      · exact absurd h (by show ¬ (34 : Int) = 0; decide)
    · rename_i h6
      exact absurd h h6
  rename_i h5
  rw [if_neg h5]
  split at h
  · rename_i h6
    rw [if_pos h6]
    unfold canX at h ⊢
    split at h
    · rename_i h7
      rw [if_pos h7]
      split at h
      · rename_i h8
        rw [if_pos h8]
        split at h
        · rename_i h9
          rw [if_pos h9]
          exact putV_sm
        · exact absurd h (by show ¬ (35 : Int) = 0; decide)
      · rename_i h8
        rw [if_neg h8]
        split at h
        · rename_i h9
          rw [if_pos h9]
          obtain ⟨e1, e2, e3⟩ := bind_0 h
          rw [e3, freeH_sm e2, putP_sm e1 ha]
          omega
        · exact absurd h (by show ¬ (37 : Int) = 0; decide)
    · rename_i h7
      exact absurd h h7
  · rename_i h6
    rw [if_neg h6]
/-- What is done keeps states such as may be. -/
theorem bindE_ok2 {x : Int × SS} {f : SS → Int × SS} (h1 : SOk x.2) (h2 : ∀ s : SS, SOk s → SOk (f s).2) : SOk (bindE x f).2 := by
  unfold bindE
  split
  · exact h2 _ h1
  · exact h1
theorem doX_ok {s : SS} {L : List Lk} {t : Tx} (hs : SOk s) (ht : TOk t) : SOk (doX s L t).2 := by
  unfold doX
  split
  · exact moveP_ok hs ht.am
  split
  · exact bindE_ok2 (takeP_ok hs ht.am) fun s h => bindE_ok2 (putV_ok h ht.am) fun s h => holdH_ok h ht.am
  split
  · unfold drawX
    split
    · exact bindE_ok2 (vaultV_ok hs ht.am) fun s h => bindE_ok2 (putP_ok h ht.am) fun s h => freeH_ok h ht.am
    · exact hs
  split
  · unfold prepX
    repeat' split
    all_goals first
      | exact hs
      | exact vaultV_ok hs ht.va
      | exact bindE_ok2 (takeP_ok hs ht.va) fun s h => holdH_ok h ht.va
  split
  · unfold fulX
    repeat' split
    all_goals first
      | exact hs
      | exact putV_ok hs ht.va
      | exact bindE_ok2 (putP_ok hs (wsub_any _ _ ht.va ht.fee)) fun s h => bindE_ok2 (putP_ok h ht.fee) fun s h => freeH_ok h ht.va
  split
  · unfold canX
    repeat' split
    all_goals first
      | exact hs
      | exact putV_ok hs ht.va
      | exact bindE_ok2 (putP_ok hs ht.va) fun s h => freeH_ok h ht.va
  · exact hs
theorem doL_len (L : List Lk) (t : Tx) : L.length ≤ (doL L t).length ∧ (doL L t).length ≤ L.length + 1 := by
  unfold doL endL
  (repeat' split) <;> simp [prepL, stL_length]
/-- All there is, of an asset. -/
def tot (s : SS) (a : Nat) : Int := sm s a + (if a = 0 then s.bu else 0)
theorem doX_bu (s : SS) (L : List Lk) (t : Tx) : (doX s L t).2.bu = s.bu := by
  have key : ∀ {x : Int × SS} {f : SS → Int × SS} {n : Int}, x.2.bu = n → (∀ s : SS, s.bu = n → (f s).2.bu = n) → (bindE x f).2.bu = n := fun {x f n} h1 h2 => by
    unfold bindE
    split
    · exact h2 _ h1
    · exact h1
  unfold doX
  split
  · rfl
  split
  · exact key rfl fun s h => key h fun s h => h
  split
  · unfold drawX
    split
    · exact key rfl fun s h => key h fun s h => h
    · rfl
  split
  · unfold prepX
    repeat' split
    all_goals first
      | rfl
      | exact key rfl fun s h => h
  split
  · unfold fulX
    repeat' split
    all_goals first
      | rfl
      | exact key rfl fun s h => key h fun s h => h
  split
  · unfold canX
    repeat' split
    all_goals first
      | rfl
      | exact key rfl fun s h => h
  · rfl
theorem s1F_tot {s : SS} {t : Tx} (h : (tkR s.pu t.fr 0 1).2 = 0) (hb : s.bu + 1 < 115792089237316195423570985008687907853269984665640564039457584007913129639936) {a : Nat} (ha : a < 2) : tot (s1F s t) a = tot s a := by
  obtain ⟨h1, h2, h3⟩ := tk_ok h
  show psum (fun j => (tkR s.pu t.fr 0 1).1 (2 * j + a)) 8 + s.he a + (if a = 0 then wadd s.bu 1 else 0) = _
  rw [h3, psum_row (by omega) ha (by omega), wadd_lt hb]
  unfold tot sm
  rcases Nat.lt_or_ge 0 a with h4 | h4
  · rw [if_neg (by show ¬ (0 : Int).toNat = a; simp; omega), if_neg (by omega), if_neg (by omega)]
    omega
  · obtain rfl : a = 0 := by omega
    rw [if_pos rfl, if_pos rfl, if_pos (show (0 : Int).toNat = 0 from rfl)]
    omega
/-- A transaction keeps all there is. -/
theorem ap_keeps {s : SS} {L : List Lk} {t : Tx} {ap : Ap} (e : apF s L t = ap) (hs : SOk s) (ht : TIn t) : SOk ap.s ∧ (∀ a, a < 2 → tot ap.s a = tot s a) ∧ L.length ≤ ap.L.length ∧ ap.L.length ≤ L.length + 1 := by
  subst e
  unfold apF
  split
  · rename_i h1
    have hk := tok_of ht h1
    split
    · split
      · rename_i h3
        have h5 : SOk (s1F s t) := s1F_ok hs
        split
        · rename_i h4
          refine ⟨doX_ok h5 hk, fun a ha => ?_, (doL_len L t).1, (doL_len L t).2⟩
          show tot (doX (s1F s t) L t).2 a = _
          rw [← s1F_tot h3.1 h3.2 ha]
          unfold tot
          rw [doX_sm h4 ha, doX_bu]
        · exact ⟨h5, fun a ha => s1F_tot h3.1 h3.2 ha, Nat.le_refl _, Nat.le_succ _⟩
      · exact ⟨hs, fun a _ => rfl, Nat.le_refl _, Nat.le_succ _⟩
    · exact ⟨hs, fun a _ => rfl, Nat.le_refl _, Nat.le_succ _⟩
  · exact ⟨hs, fun a _ => rfl, Nat.le_refl _, Nat.le_succ _⟩
theorem psum_pos {ns : Nat → Int} (h : ∀ j, Wd (ns j)) : ∀ n, 0 ≤ psum ns n
  | 0 => Int.le_refl _
  | n + 1 => by
    have h1 := psum_pos h n
    have h2 := (h n).1
    simp only [psum]
    omega
theorem gen_tot (side time : Int) {a : Nat} (ha : a < 2) : tot (genS side time) a = 8000 := by
  match a, ha with
  | 0, _ => rfl
  | 1, _ => rfl
  | a + 2, h => omega
end Go.Proofs.YtljbedladifgmaaGreat.Kee
namespace Go.Proofs.YtljbedladifgmaaGreat.Eng
open Go Go.RowKit
set_option linter.unusedVariables false
set_option linter.unusedSimpArgs false
set_option linter.unusedSectionVars false
theorem Fr.trans0 {a b c : World} (h1 : Fr a [] b) (h2 : Fr b [] c) : Fr a [] c := ⟨h2.os.trans h1.os, h2.tape.trans h1.tape, h2.output.trans h1.output, Nat.le_trans h1.size h2.size, fun i hi _ => (h2.same i (Nat.lt_of_lt_of_le hi h1.size) (by simp)).trans (h1.same i hi (by simp))⟩
section
variable {P : Program} {c : Cx} {l : TL} {H : List Asrt} {Q : Exit → Act → World → Prop} {X : Act → World → Prop}
variable {ty : TypeId} {pos : String} {af : Array Edge} {d : Nat} {v : Value} {dst : Option Tmp} {mm : Nat}
theorem offA_zero {g sz m : Nat} : offA (some ⟨g, 0, none⟩) (0 * sz) m = some ⟨g, 0, none⟩ := by
  unfold offA
  split
  · rfl
  · simp [Addr.add]
theorem offA_at {g k m : Nat} (h : m ≠ 0) : offA (some ⟨g, 0, none⟩) k m = some ⟨g, k, none⟩ := by
  unfold offA
  rw [if_neg h]
  simp [Addr.add]
  exact fun e => e.symm
theorem zeroCells_one (z : List Value) (h : z.all (·.oneCell') = true) (n : Nat) : ∀ u ∈ (Builtin.zeroCells z.toArray n).toList, u.oneCell' = true := by
  intro u hu
  simp only [Builtin.zeroCells, Array.toList_map, List.mem_map, Array.mem_toList_iff, Array.mem_range, List.size_toArray] at hu
  obtain ⟨q, hq, rfl⟩ := hu
  have hz : 0 < z.length := by
    rcases Nat.eq_zero_or_pos z.length with h0 | h0
    · rw [h0, Nat.mul_zero] at hq
      omega
    · exact h0
  have hl := Nat.mod_lt q hz
  rw [getElem!_pos _ _ (by simpa using hl)]
  exact List.all_eq_true.1 h _ (by simp)
theorem Sat.rowTo {w0 w : World} {own : List Nat} {g cap E sz n m : Nat} {C C' cur : List Value} {ca : Array Value} (s : Sat w0 own (Eng.rowAt g cap E sz n C :: H) w) (hg : w.heap[g]? = some (.cells ca E (0, 0))) (hcs : ca.size = cap * sz) (hcur : cur.length = cap * sz) (hl : C'.length = m * sz) (hm : m ≤ cap) (hmx : cap ≤ maxLen) (ht : cur.take (m * sz) = C') :
    Sat w0 own (Eng.rowAt g cap E sz m C' :: H) (w.setRow g cur.toArray) := by
  refine s.turn rfl rfl rfl (by simp [World.setRow]) fun fp hfp => ?_
  obtain ⟨rfl, _⟩ := hfp
  exact ⟨⟨rfl, hl, hm, hmx, _, setRow_heap w g ca _ E _ hg, by simpa using hcur, by simpa using ht⟩, fun k hk => setRow_other w g k _ (fun e => hk (by simp [e]))⟩
theorem rowAt_max {w0 w : World} {own : List Nat} {g cap E sz n : Nat} {C : List Value} (s : Sat w0 own H w) (hm : Eng.rowAt g cap E sz n C ∈ H) : cap ≤ maxLen := by
  obtain ⟨fp, ⟨_, _, _, h, _⟩, _, _⟩ := s.mem hm
  exact h
theorem J.rowCap {g cap E sz n : Nat} {C : List Value} {G : Act → World → Prop} (hm : In (Eng.rowAt g cap E sz n C) H) (K : n ≤ cap → J c l H G) : J c l H G := J.mk fun a w s => by
  obtain ⟨_, _, _, _, _, h⟩ := s.2.2.rowAt hm.mem
  exact (K h).out a w s
/-- What stands from j on goes to i. -/
theorem J.appendIn {T E bytes sz : Nat} {agg : Bool} {z : List Value} [i : Sl P T E bytes] [t : Ty P E agg sz z] {s x : Operand} {g n cap i0 j : Nat} {C : List Value} {H1 : List Asrt} (hd : Nat.blt d c.n = true)
    (hs : ev l s = some (.slice (offA (some ⟨g, 0, none⟩) (0 * sz) (cap - 0)) (i0 - 0) (cap - 0))) (hx : ev l x = some (.slice (offA (some ⟨g, 0, none⟩) (j * sz) (cap - j)) (n - j) (cap - j))) (ho : Out (rowAt g cap E sz n C) H H1) (hij : i0 ≤ j) (hj : j ≤ n) (h1 : C.all (·.oneCell') = true)
    (K : J c ((d, .slice (some ⟨g, 0, none⟩) (i0 + (n - j)) cap) :: l) (rowAt g cap E sz (i0 + (n - j)) (C.take (i0 * sz) ++ C.drop (j * sz)) :: H1) X) : J c l H (OW P Q ⟨some d, .call ⟨.builtin .append, #[s, x], #[T, T]⟩, ty, pos, af, none⟩ X) := J.opv fun a w st => by
  rw [offA_zero, Nat.sub_zero, Nat.sub_zero] at hs
  obtain ⟨cbs, hrun⟩ := run_builtin (P := P) (b := .append) (xs := [s, x]) (ts := #[T, T]) (vs := [.slice (some ⟨g, 0, none⟩) i0 cap, .slice (offA (some ⟨g, 0, none⟩) (j * sz) (cap - j)) (n - j) (cap - j)]) (dst := some d) (ty := ty) (pos := pos) (af := af) st.1 (by simp [evs, hs, hx]) w
  rw [show ([s, x] : List Operand).toArray = #[s, x] from rfl] at hrun
  have s1 := st.2.2.perm ho.perm
  obtain ⟨cur, hg, hcs, htake, hCl, hnc⟩ := s1.rowAt (List.mem_cons_self ..)
  have hmx := rowAt_max s1 (List.mem_cons_self ..)
  have hi2 : i0 * sz ≤ n * sz := Nat.mul_le_mul_right _ (by omega)
  have hj2 : j * sz ≤ n * sz := Nat.mul_le_mul_right _ hj
  have hnl : (C.drop (j * sz)).length = (n - j) * sz := by rw [List.length_drop, hCl, Nat.sub_mul]
  have htl : (C.take (i0 * sz)).length = i0 * sz := by rw [List.length_take, hCl]; omega
  have htk : cur.toList.take (i0 * sz) = C.take (i0 * sz) := by rw [← htake, List.take_take, Nat.min_eq_left hi2]
  have hcl : (C.take (i0 * sz) ++ C.drop (j * sz)).length = (i0 + (n - j)) * sz := by rw [List.length_append, htl, hnl, Nat.add_mul]
  rcases Nat.eq_zero_or_pos (n - j) with h0 | h0
  · have hnil : C.drop (j * sz) = [] := List.eq_nil_of_length_eq_zero (by rw [hnl, h0]; simp)
    refine ⟨.slice (some ⟨g, 0, none⟩) i0 cap, w, ?_, ?_⟩
    · rw [hrun]
      simp only [builtin, Sem.run_bind]
      rw [h0, show ([Value.slice (some ⟨g, 0, none⟩) i0 cap, Value.slice (offA (some ⟨g, 0, none⟩) (j * sz) (cap - j)) 0 (cap - j)] : List Value).toArray = #[.slice (some ⟨g, 0, none⟩) i0 cap, .slice (offA (some ⟨g, 0, none⟩) (j * sz) (cap - j)) 0 (cap - j)] from rfl, run_append_zero (bytes := bytes) w (by omega)]
      rfl
    · rw [h0, hnil] at K
      simp only [Nat.add_zero, List.append_nil] at K
      refine K.out _ _ ⟨st.1.put hd, st.2.1, s1.conv fun h fp hh => ?_⟩
      obtain ⟨e1, e2, e3, e4, cu, e5, e6, e7⟩ := hh
      exact ⟨e1, htl, by omega, e4, cu, e5, e6, by rw [← e7, List.take_take, Nat.min_eq_left hi2]⟩
  · rw [offA_at (by omega)] at hrun
    have hsi := t.siz
    obtain ⟨inf, hinf⟩ : ∃ inf, P.info? E = some inf := by
      cases hu : P.info? E with
      | none => rw [hu] at hsi; cases hsi
      | some x => exact ⟨x, rfl⟩
    rw [hinf] at hsi
    simp only [Option.map_some, Option.some.injEq] at hsi
    have hnw : ∀ q u, (C.drop (j * sz))[q]? = some u → w.cell? ((⟨g, j * sz, none⟩ : Addr).add q) = some u := fun q u hq => by
      rw [List.getElem?_drop] at hq
      rw [addr_add]
      exact s1.rowCell (List.mem_cons_self ..) hq
    have h1' : ∀ u ∈ C.drop (j * sz), u.oneCell' = true := fun u hu => by
      have := List.all_eq_true.1 h1 u (List.mem_of_mem_drop hu)
      exact this
    have hsz : (i0 + (n - j)) * sz ≤ cap * sz := Nat.mul_le_mul_right _ (by omega)
    have hfit : i0 * inf.size + (C.drop (j * sz)).length ≤ cur.size := by rw [hnl, hcs, hsi, ← Nat.add_mul]; exact hsz
    have hr := run_append_room (P := P) w T ty E inf i.und hinf g i0 cap cur hg ⟨g, j * sz, none⟩ (n - j) (cap - j) (C.drop (j * sz)) (by rw [hnl, hsi]) hnw h1' (by omega) hfit
    refine ⟨_, _, ?_, K.out _ _ ⟨st.1.put hd, st.2.1, s1.rowTo (cur := cur.toList.take (i0 * sz) ++ C.drop (j * sz) ++ cur.toList.drop (i0 * sz + (C.drop (j * sz)).length)) hg hcs ?_ hcl (by omega) hmx ?_⟩⟩
    · rw [hrun]
      simp only [builtin, Sem.run_bind]
      rw [show ([Value.slice (some ⟨g, 0, none⟩) i0 cap, Value.slice (some ⟨g, j * sz, none⟩) (n - j) (cap - j)] : List Value).toArray = #[.slice (some ⟨g, 0, none⟩) i0 cap, .slice (some ⟨g, j * sz, none⟩) (n - j) (cap - j)] from rfl, hr, hsi]
      rfl
    · rw [hsi] at hfit
      simp only [List.length_append, List.length_take, List.length_drop, Array.length_toList] at hfit ⊢
      omega
    · rw [htk, ← hcl]
      exact List.take_left
/-- What lies behind a row's end is cleared. -/
theorem J.clearTail {T E bytes sz : Nat} {agg : Bool} {z : List Value} [i : Sl P T E bytes] [t : Ty P E agg sz z] {x : Operand} {g n cap m : Nat} {C : List Value} (hx : ev l x = some (.slice (offA (some ⟨g, 0, none⟩) (m * sz) (cap - m)) (n - m) (cap - m))) (ho : In (rowAt g cap E sz m C) H) (hn : n ≤ cap) (hm : m ≤ n) (hz : z.length = sz) (h1 : z.all (·.oneCell') = true)
    (K : J c l H X) : J c l H (OW P Q ⟨none, .call ⟨.builtin .clear, #[x], #[T]⟩, ty, pos, af, none⟩ X) := J.opv fun a w st => by
  obtain ⟨cbs, hrun⟩ := run_builtin (P := P) (b := .clear) (xs := [x]) (ts := #[T]) (vs := [.slice (offA (some ⟨g, 0, none⟩) (m * sz) (cap - m)) (n - m) (cap - m)]) (dst := none) (ty := ty) (pos := pos) (af := af) st.1 (by simp [evs, hx]) w
  rw [show ([x] : List Operand).toArray = #[x] from rfl] at hrun
  rcases Nat.eq_zero_or_pos (n - m) with h0 | h0
  · refine ⟨.tuple #[], w, ?_, K.out _ _ ⟨st.1.put_none, st.2.1, st.2.2⟩⟩
    rw [hrun, h0]
    cases hoff : offA (some ⟨g, 0, none⟩) (m * sz) (cap - m) <;> simp [builtin, Builtin.clear_, run_und i.und]
  · rw [offA_at (by omega)] at hrun
    have p : ∃ R, H.Perm (rowAt g cap E sz m C :: R) := by
      obtain ⟨s', t', rfl⟩ := List.append_of_mem ho.mem
      exact ⟨_, List.perm_middle⟩
    obtain ⟨R, p⟩ := p
    have s1 := st.2.2.perm p
    obtain ⟨cur, hg, hcs, htake, hCl, hnc⟩ := s1.rowAt (List.mem_cons_self ..)
    have hmx := rowAt_max s1 (List.mem_cons_self ..)
    obtain ⟨zv, hz1, hz2⟩ := run_zeroV (P := P) (w := w) (T := E)
    have hzl : (Builtin.zeroCells zv.cells (n - m)).toList.length = (n - m) * sz := by
      rw [Array.length_toList, size_zeroCells, hz2]
      simp [hz]
    have hz3 : ∀ u ∈ (Builtin.zeroCells zv.cells (n - m)).toList, u.oneCell' = true := by
      intro u hu
      rw [hz2] at hu
      have h2 := zeroCells_one z h1 (n - m)
      exact h2 u hu
    have hsz : m * sz + (n - m) * sz ≤ cap * sz := by rw [← Nat.add_mul]; exact Nat.mul_le_mul_right _ (by omega)
    have hst := run_storeCells_at P g (m * sz) E (Builtin.zeroCells zv.cells (n - m)).toList 0 cur w hg (by rw [Nat.add_zero, hzl, hcs]; exact hsz) hz3
    simp only [Nat.add_zero] at hst
    refine ⟨.tuple #[], _, ?_, K.out _ _ ⟨st.1.put_none, st.2.1, (s1.rowTo (cur := cur.toList.take (m * sz) ++ (Builtin.zeroCells zv.cells (n - m)).toList ++ cur.toList.drop (m * sz + (Builtin.zeroCells zv.cells (n - m)).toList.length)) hg hcs ?_ hCl hnc hmx ?_).perm p.symm⟩⟩
    · rw [hrun]
      obtain ⟨k, hk⟩ : ∃ k, n - m = k + 1 := ⟨n - m - 1, by omega⟩
      rw [hk] at hst ⊢
      simp [builtin, Builtin.clear_, run_und i.und, hz1, hst]
    · simp only [List.length_append, List.length_take, List.length_drop, hzl, Array.length_toList, hcs]
      omega
    · rw [htake, List.append_assoc, ← hCl]
      exact List.take_left
end
end Go.Proofs.YtljbedladifgmaaGreat.Eng
namespace Go.Proofs.YtljbedladifgmaaGreat.Cht
open Go Go.RowKit Eng
set_option linter.unusedVariables false
set_option maxRecDepth 100000
set_option linter.unusedSimpArgs false
open Wide Purse Tx Sha Ss Esc Vau Lck Do Prep Ful Doo Tri App Inn Low Gene Alv Kee Txl Deal Mss Ots Hash Bytes
set_option maxHeartbeats 1000000
theorem clone_tx (ao : Option Addr) (n cap : Nat) (C : List Value) (w : World) (hw : Rd w ao C ∧ C.length = n * 25 ∧ C.all (·.oneCell') = true ∧ n * 224 ≤ 140737488355328 ∧ n ≤ maxLen) : CSpec Tryz.prog 70 [.slice ao n cap] [] w (Fresh 50 25 n C []) := by
  obtain ⟨hr, hl, ho, hb, hm⟩ := hw
  refine spec_own0 Tryz.func70 rfl Tryz.ntmps70 rfl (l0 := [(0, .slice ao n cap)]) rfl ?_
  repeat' first
    | (refine J.qv ?_; (with_reducible apply exq); focus (first
      | ((with_reducible apply Qv.nilS); exact rfl)))
    | ((with_reducible apply J.buildRow0); exact rfl; intro _)
    | ((with_reducible apply J.appendR); exact rfl; exact rfl; (repeat (first | with_reducible exact Out.here | with_reducible apply Out.there)); exact rfl; exact RH.old hr; exact hl; exact ho; exact rfl; exact rfl; (first | decide | (simp only [maxLen]; omega) | omega); (first | decide | (simp only [maxLen]; omega) | omega); intro _ _)
    | refine J.one ?_
    | refine J.loudS ?_
    | (refine J.loudQ ?_; intro _ _)
    | (refine J.loudB ?_; intro _)
    | (with_reducible apply J.list)
    | ((with_reducible apply J.gsplit); exact rfl; exact rfl)
    | ((with_reducible first | apply J.cond | apply JC.cond); exact rfl)
    | (intro h; exfalso; fail)
    | (intro h; (try simp only [decide_eq_true_eq, decide_eq_false_iff_not, beq_iff_eq, beq_eq_false_iff_ne, Bool.not_eq_true', Bool.not_eq_false', bne_iff_ne, bne_eq_false_iff_eq, ne_eq, ge_iff_le, gt_iff_lt] at h))
    | (with_reducible apply J.gave')
    | ((with_reducible apply J.kept'); rotate_left; (repeat (first | (with_reducible exact Outs.nil) | ((with_reducible apply Outs.cons); (repeat (first | with_reducible exact Out.here | with_reducible apply Out.there))))))
  all_goals
    first
    | (rw [Option.isNone_iff_eq_none] at h
       have e1 : C = [] := hr.1 h
       subst e1
       have e2 : n = 0 := by simp at hl; omega
       subst e2
       refine J.nilRow 50 25 ?_
       (with_reducible apply J.freshRow)
       (repeat (first | with_reducible exact Out.here | with_reducible apply Out.there))
       exact rfl
       exact rfl
       exact rfl)
    | ((with_reducible apply J.freshRow)
       (repeat (first | with_reducible exact Out.here | with_reducible apply Out.there))
       exact rfl
       omega
       exact List.nil_append _)
    | (trace_state; fail)
theorem clone_ev (ao : Option Addr) (n cap : Nat) (C : List Value) (w : World) (hw : Rd w ao C ∧ C.length = n * 27 ∧ C.all (·.oneCell') = true ∧ n * 240 ≤ 140737488355328 ∧ n ≤ maxLen) : CSpec Tryz.prog 71 [.slice ao n cap] [] w (Fresh 72 27 n C []) := by
  obtain ⟨hr, hl, ho, hb, hm⟩ := hw
  refine spec_own0 Tryz.func71 rfl Tryz.ntmps71 rfl (l0 := [(0, .slice ao n cap)]) rfl ?_
  repeat' first
    | (refine J.qv ?_; (with_reducible apply exq); focus (first
      | ((with_reducible apply Qv.nilS); exact rfl)))
    | ((with_reducible apply J.buildRow0); exact rfl; intro _)
    | ((with_reducible apply J.appendR); exact rfl; exact rfl; (repeat (first | with_reducible exact Out.here | with_reducible apply Out.there)); exact rfl; exact RH.old hr; exact hl; exact ho; exact rfl; exact rfl; (first | decide | (simp only [maxLen]; omega) | omega); (first | decide | (simp only [maxLen]; omega) | omega); intro _ _)
    | refine J.one ?_
    | refine J.loudS ?_
    | (refine J.loudQ ?_; intro _ _)
    | (refine J.loudB ?_; intro _)
    | (with_reducible apply J.list)
    | ((with_reducible apply J.gsplit); exact rfl; exact rfl)
    | ((with_reducible first | apply J.cond | apply JC.cond); exact rfl)
    | (intro h; exfalso; fail)
    | (intro h; (try simp only [decide_eq_true_eq, decide_eq_false_iff_not, beq_iff_eq, beq_eq_false_iff_ne, Bool.not_eq_true', Bool.not_eq_false', bne_iff_ne, bne_eq_false_iff_eq, ne_eq, ge_iff_le, gt_iff_lt] at h))
    | (with_reducible apply J.gave')
    | ((with_reducible apply J.kept'); rotate_left; (repeat (first | (with_reducible exact Outs.nil) | ((with_reducible apply Outs.cons); (repeat (first | with_reducible exact Out.here | with_reducible apply Out.there))))))
  all_goals
    first
    | (rw [Option.isNone_iff_eq_none] at h
       have e1 : C = [] := hr.1 h
       subst e1
       have e2 : n = 0 := by simp at hl; omega
       subst e2
       refine J.nilRow 72 27 ?_
       (with_reducible apply J.freshRow)
       (repeat (first | with_reducible exact Out.here | with_reducible apply Out.there))
       exact rfl
       exact rfl
       exact rfl)
    | ((with_reducible apply J.freshRow)
       (repeat (first | with_reducible exact Out.here | with_reducible apply Out.there))
       exact rfl
       omega
       exact List.nil_append _)
    | (trace_state; fail)
theorem tx_len (t : Tx) : t.cells.length = 25 := rfl
/-- An event. -/
structure Ev where
  tm : Int
  co : Int
  tx : Tx
def Ev.cells (e : Ev) : List Value := [.int .i64 e.tm, .int .i64 e.co] ++ e.tx.cells
def ev0 : Ev := ⟨0, 0, tx0⟩
theorem ev_len (e : Ev) : e.cells.length = 27 := rfl
def evc (E : List Ev) : List Value := (E.map Ev.cells).flatten
theorem flat_length {α : Type} {f : α → List Value} {k : Nat} (h : ∀ a, (f a).length = k) : ∀ E : List α, ((E.map f).flatten).length = E.length * k
  | [] => by simp
  | a :: E => by
    rw [List.map_cons, List.flatten_cons, List.length_append, h, flat_length h E, List.length_cons, Nat.succ_mul]
    omega
theorem flat_at {α : Type} {f : α → List Value} {k : Nat} (h : ∀ a, (f a).length = k) (a0 : α) : ∀ {E : List α} {i : Nat}, i < E.length → (((E.map f).flatten).drop (i * k)).take k = f (E.getD i a0)
  | a :: E, 0, _ => by
    rw [List.map_cons, List.flatten_cons, Nat.zero_mul, List.drop_zero]
    exact List.take_left' (h a)
  | a :: E, i + 1, hi => by
    have h2 := flat_at h a0 (E := E) (i := i) (by simpa using hi)
    rw [List.map_cons, List.flatten_cons, show (i + 1) * k = (f a).length + i * k by rw [h, Nat.succ_mul]; omega, List.drop_append, List.drop_eq_nil_of_le (by omega), List.nil_append, show (f a).length + i * k - (f a).length = i * k by omega, h2]
    rfl
theorem flat_take {α : Type} {f : α → List Value} {k : Nat} (h : ∀ a, (f a).length = k) : ∀ {E : List α} {i : Nat}, i ≤ E.length → ((E.map f).flatten).take (i * k) = ((E.take i).map f).flatten
  | E, 0, _ => by simp
  | a :: E, i + 1, hi => by
    have h2 := flat_take h (E := E) (i := i) (by simpa using hi)
    rw [List.take_succ_cons, List.map_cons, List.flatten_cons, List.map_cons, List.flatten_cons, show (i + 1) * k = (f a).length + i * k by rw [h, Nat.succ_mul]; omega, List.take_append, List.take_of_length_le (by omega), show (f a).length + i * k - (f a).length = i * k by omega, h2]
theorem flat_drop {α : Type} {f : α → List Value} {k : Nat} (h : ∀ a, (f a).length = k) : ∀ {E : List α} {i : Nat}, i ≤ E.length → ((E.map f).flatten).drop (i * k) = ((E.drop i).map f).flatten
  | E, 0, _ => by simp
  | a :: E, i + 1, hi => by
    have h2 := flat_drop h (E := E) (i := i) (by simpa using hi)
    rw [List.drop_succ_cons, List.map_cons, List.flatten_cons, show (i + 1) * k = (f a).length + i * k by rw [h, Nat.succ_mul]; omega, List.drop_append, List.drop_eq_nil_of_le (by omega), List.nil_append, show (f a).length + i * k - (f a).length = i * k by omega, h2]
theorem flat_ones {α : Type} {f : α → List Value} (h : ∀ a, (f a).all (·.oneCell') = true) : ∀ E : List α, ((E.map f).flatten).all (·.oneCell') = true
  | [] => rfl
  | a :: E => by rw [List.map_cons, List.flatten_cons, List.all_append, h, flat_ones h E]; rfl
theorem evc_length (E : List Ev) : (evc E).length = E.length * 27 := flat_length (f := Ev.cells) (k := 27) (fun _ => rfl) E
theorem evc_ones (E : List Ev) : (evc E).all (·.oneCell') = true := flat_ones (fun _ => rfl) E
theorem evc_at {E : List Ev} {i : Nat} (h : i < E.length) : ((evc E).drop (i * 27)).take 27 = (E.getD i ev0).cells := flat_at (f := Ev.cells) (k := 27) (fun _ => rfl) ev0 h
theorem evc_drop {E : List Ev} {i : Nat} (h : i ≤ E.length) : (evc E).drop (i * 27) = evc (E.drop i) := flat_drop (f := Ev.cells) (k := 27) (fun _ => rfl) h
theorem evc_add (E : List Ev) (e : Ev) : evc E ++ e.cells = evc (E ++ [e]) := by simp [evc]
theorem txc_add (T : List Tx) (t : Tx) : txc T ++ t.cells = txc (T ++ [t]) := by simp [txc]
theorem txc_take {T : List Tx} {i : Nat} (h : i ≤ T.length) : (txc T).take (i * 25) = txc (T.take i) := flat_take (f := Tx.cells) (k := 25) (fun _ => rfl) h
theorem txc_drop {T : List Tx} {i : Nat} (h : i ≤ T.length) : (txc T).drop (i * 25) = txc (T.drop i) := flat_drop (f := Tx.cells) (k := 25) (fun _ => rfl) h
theorem txc_join (A B : List Tx) : txc A ++ txc B = txc (A ++ B) := by simp [txc]
/-- Are transactions one? -/
noncomputable def teq (t u : Tx) : Bool := @decide (t.cells = u.cells) (Classical.propDecidable _)
theorem teq_iff {t u : Tx} : teq t u = true ↔ t.cells = u.cells := by simp [teq]
theorem teq_self (t : Tx) : teq t t = true := teq_iff.2 rfl
theorem teq_comm (t u : Tx) : teq t u = teq u t := by
  rw [Bool.eq_iff_iff, teq_iff, teq_iff]
  exact eq_comm
theorem tx_reads {W : World} {t : Tx} (h : TX t) : Sh.ReadsL W txsh t.cells := by
  have hs : ∀ l : List UInt8, l.length ≤ maxLen → Sh.Reads W .str (str l) := fun l hl => ⟨_, rfl, by show l.toArray.size ≤ maxLen; simpa using hl⟩
  have hi : ∀ x : Int, I64 x → Sh.Reads W (.int .i64) (.int .i64 x) := fun x hx => ⟨x, rfl, hx⟩
  have hw : ∀ (x : Int) (L : List Sh) (cs : List Value), Sh.ReadsL W L cs → Sh.ReadsL W (wsh ++ L) (wv x ++ cs) := fun x L cs hc => Sh.ReadsL.append (by rw [show wsh.length = (wv x).length from rfl, List.take_left]; exact wv_reads x) (by rw [show wsh.length = (wv x).length from rfl, List.drop_left]; exact hc)
  exact ⟨_, _, rfl, hi _ h.n.fr, _, _, rfl, hi _ h.n.no, _, _, rfl, hi _ h.n.ki, _, _, rfl, hi _ h.n.at_, hw t.am _ _ ⟨_, _, rfl, hi _ h.n.us, _, _, rfl, hs _ h.i.i.rt, _, _, rfl, hi _ h.n.ro, _, _, rfl, hi _ h.n.se, _, _, rfl, hi _ h.n.re, _, _, rfl, hi _ h.n.to, _, _, rfl, hs _ h.i.i.id, hw t.va _ _ ⟨_, _, rfl, hi _ h.n.ex, hw t.fee _ _ ⟨_, _, rfl, hs _ h.i.i.sg, rfl⟩⟩⟩⟩
theorem eq_tx {t u : Tx} (ht : TX t) (hu : TX u) (w : World) : (Op.equal 50 (.agg t.cells.toArray) (.agg u.cells.toArray)).run Tryz.prog w = .ok (teq t u) w := eq_flat (k := 4) (L := txsh) (by kernel_rfl) (by kernel_rfl) (by kernel_rfl) (by kernel_rfl) (by kernel_rfl) (by decide) (tx_reads (W := w) ht) (tx_reads hu) teq_iff w
theorem Qv.eqTx {mm T' : Nat} {x y : Operand} {l : TL} {t u : Tx} (hx : ev l x = some (.agg t.cells.toArray)) (hy : ev l y = some (.agg u.cells.toArray)) (h : TX t) (h2 : TX u) : Qv Tryz.prog mm l (.binOp .eql 50 x y T') (.bool (teq t u)) := Qv.eqlA hx hy (by kernel_rfl) (fun w => eq_tx h h2 w)
theorem Qv.neTx {mm T' : Nat} {x y : Operand} {l : TL} {t : Tx} (hx : ev l x = some (.agg t.cells.toArray)) (hy : ev l y = some (.agg t.cells.toArray)) (h : TX t) : Qv Tryz.prog mm l (.binOp .neq 50 x y T') (.bool false) := Qv.neqA (r := true) hx hy (by kernel_rfl) (fun w => teq_self t ▸ eq_tx h h w)
/-- Which one is it; is it there? -/
noncomputable def idxT (P : List Tx) (t : Tx) : Int := findI (fun i => teq t (P.getD i tx0)) P.length
noncomputable def hasT (P : List Tx) (t : Tx) : Bool := decide (0 ≤ idxT P t)
theorem hasT_nil (t : Tx) : hasT [] t = false := rfl
theorem hasT_iff {P : List Tx} {t : Tx} : hasT P t = true ↔ ∃ i, i < P.length ∧ teq t (P.getD i tx0) = true := by
  unfold hasT idxT
  rcases findI_or (p := fun i => teq t (P.getD i tx0)) (N := P.length) with ⟨h1, h2⟩ | ⟨i, h1, h2, h3, h4⟩
  · rw [h1]
    constructor
    · intro h; simp at h
    · rintro ⟨i, hi, h⟩
      rw [h2 i hi] at h
      cases h
  · rw [h2]
    constructor
    · intro _; exact ⟨i, h1, h3⟩
    · intro _; simp
theorem index_tx (ao : Option Addr) (cap : Nat) (P : List Tx) (t : Tx) (w : World) (hw : Rd w ao (txc P) ∧ TsIn P ∧ TX t ∧ P.length ≤ maxLen) : CSpec Tryz.prog 106 [.slice ao P.length cap, .agg t.cells.toArray] [] w (Gives (.int .i64 (idxT P t))) := by
  obtain ⟨hr, hP, ht, hm⟩ := hw
  have hm9 : P.length ≤ 9223372036854775807 := by unfold maxLen at hm; omega
  have hao : 0 < P.length → ao.isSome = true := txs_some hr
  refine spec_own0 Tryz.func106 rfl Tryz.ntmps106 rfl (l0 := [(0, .slice ao P.length cap), (1, .agg t.cells.toArray)]) rfl ?_
  repeat' first
    | (refine J.qr ?_; (with_reducible apply exq); focus (first
      | ((with_reducible apply Qr.loadFull); exact rfl; (focus ((repeat (first | with_reducible exact In.here | with_reducible apply In.there)); done)); (with_reducible exact tx_len _))))
    | (refine J.qo ?_; refine ⟨?_, ?_⟩; focus (first
      | ((with_reducible apply Qr.loadFull); exact rfl; (focus ((repeat (first | with_reducible exact In.here | with_reducible apply In.there)); done)); (with_reducible exact tx_len _))))
    | refine J.one ?_
    | refine J.loudS ?_
    | (refine J.loudQ ?_; intro _ _)
    | (refine J.loudB ?_; intro _)
    | (with_reducible apply J.list)
    | ((with_reducible apply J.draw (id := 4) [0, 0, 0, 6, 14, 31] (.q 0 (.p 1 (.p 2 (.p 3 (.q 4 (.p 5 .nil)))))) (by kernel_rfl) ?_ (by kernel_rfl) ?_); (repeat (with_reducible first | exact PanicFree.body | exact PanicFree.np | exact PanicFree.lvS | apply PanicFree.then_ | apply PanicFree.blk)))
    | ((with_reducible apply J.pl2); exact rfl; (first | exact Gd.none | ((with_reducible apply Gd.on); exact rfl; exact rfl)); (repeat (first | (with_reducible exact PendF.nil) | ((with_reducible apply PendF.keep); exact rfl) | ((with_reducible apply PendF.gone); exact rfl))))
    | ((with_reducible apply J.pl2_off); exact rfl; ((with_reducible apply Gd.off); exact rfl; exact rfl; exact rfl); exact rfl; (repeat (first | (with_reducible exact PendF.nil) | ((with_reducible apply PendF.keep); exact rfl) | ((with_reducible apply PendF.gone); exact rfl))))
    | ((with_reducible apply J.pl2_off_none); exact rfl; ((with_reducible apply Gd.off); exact rfl; exact rfl; exact rfl); (repeat (first | (with_reducible exact PendF.nil) | ((with_reducible apply PendF.keep); exact rfl) | ((with_reducible apply PendF.gone); exact rfl))))
    | ((with_reducible first | apply J.psplit0 | apply J.psplit1 | apply J.psplit2); exact rfl; exact rfl; exact rfl)
    | (with_reducible exact J.pl_none)
    | ((with_reducible apply J.gsplit); exact rfl; exact rfl)
    | ((with_reducible first | apply J.cond | apply JC.cond); exact rfl)
    | (intro h; exfalso; fail)
    | (intro h; (try simp only [decide_eq_true_eq, decide_eq_false_iff_not, beq_iff_eq, beq_eq_false_iff_ne, Bool.not_eq_true', Bool.not_eq_false', bne_iff_ne, bne_eq_false_iff_eq, ne_eq, ge_iff_le, gt_iff_lt] at h))
    | (with_reducible apply J.gave')
    | ((with_reducible apply J.kept'); rotate_left; (repeat (first | (with_reducible exact Outs.nil) | ((with_reducible apply Outs.cons); (repeat (first | with_reducible exact Out.here | with_reducible apply Out.there))))))
  rename_i b3
  apply J.loopI (σ := Nat) (I := fun q => (q ≤ P.length ∧ ∀ j, j < q → teq t (P.getD j tx0) = false)) (L := fun q => [(0, .slice ao P.length cap), (3, .pointer (some ⟨b3, 0, none⟩)), (7, .int .i64 (P.length : Int)), (8, .int .i64 (q : Int))]) (HH := fun q => [blk b3 t.cells 50]) (m := fun q => P.length - q) (s0 := 0)
  · ((try dsimp only); (exact ⟨Nat.zero_le _, fun j hj => absurd hj (Nat.not_lt_zero _)⟩))
  · ((try dsimp only); repeat (first | exact sub.nil _ | (refine sub.consE rfl ?_ ?_; (first | with_reducible rfl | (fail) | rfl))))
  · ((try dsimp only); (repeat (first | (with_reducible exact Outs.nil) | ((with_reducible apply Outs.cons); (repeat (first | with_reducible exact Out.here | with_reducible apply Out.there))))))
  rintro i ⟨hI, hno⟩
  try dsimp only at *
  repeat' first
    | (refine J.qv ?_; (with_reducible apply exq); focus (first
      | ((with_reducible apply Qv.indexSrcs (k := i)); exact rfl; exact rfl; (focus omega); (focus omega); exact hao (by omega))
      | ((with_reducible apply Qv.eqTx); exact rfl; exact rfl; (with_reducible first | exact ht | exact hP.get _); (with_reducible first | exact hP.get _ | exact ht))))
    | (refine J.qr ?_; (with_reducible apply exq); focus (first
      | ((with_reducible apply Qr.rdN (C := txc P) (j := i * 25) (cs := (P.getD i tx0).cells)); exact rfl; exact RH.old hr; exact txc_at (by omega); exact rfl)
      | ((with_reducible apply Qr.loadFull); exact rfl; (focus ((repeat (first | with_reducible exact In.here | with_reducible apply In.there)); done)); (with_reducible exact tx_len _))))
    | (refine J.qo ?_; refine ⟨?_, ?_⟩; focus (first
      | ((with_reducible apply Qr.rdN (C := txc P) (j := i * 25) (cs := (P.getD i tx0).cells)); exact rfl; exact RH.old hr; exact txc_at (by omega); exact rfl)
      | ((with_reducible apply Qr.loadFull); exact rfl; (focus ((repeat (first | with_reducible exact In.here | with_reducible apply In.there)); done)); (with_reducible exact tx_len _))))
    | refine J.one ?_
    | refine J.loudS ?_
    | (refine J.loudQ ?_; intro _ _)
    | (refine J.loudB ?_; intro _)
    | (with_reducible apply J.list)
    | ((with_reducible apply J.draw (id := 4) [0, 0, 0, 6, 14, 31] (.q 0 (.p 1 (.p 2 (.p 3 (.q 4 (.p 5 .nil)))))) (by kernel_rfl) ?_ (by kernel_rfl) ?_); (repeat (with_reducible first | exact PanicFree.body | exact PanicFree.np | exact PanicFree.lvS | apply PanicFree.then_ | apply PanicFree.blk)))
    | ((with_reducible apply J.pl2); exact rfl; (first | exact Gd.none | ((with_reducible apply Gd.on); exact rfl; exact rfl)); (repeat (first | (with_reducible exact PendF.nil) | ((with_reducible apply PendF.keep); exact rfl) | ((with_reducible apply PendF.gone); exact rfl))))
    | ((with_reducible apply J.pl2_off); exact rfl; ((with_reducible apply Gd.off); exact rfl; exact rfl; exact rfl); exact rfl; (repeat (first | (with_reducible exact PendF.nil) | ((with_reducible apply PendF.keep); exact rfl) | ((with_reducible apply PendF.gone); exact rfl))))
    | ((with_reducible apply J.pl2_off_none); exact rfl; ((with_reducible apply Gd.off); exact rfl; exact rfl; exact rfl); (repeat (first | (with_reducible exact PendF.nil) | ((with_reducible apply PendF.keep); exact rfl) | ((with_reducible apply PendF.gone); exact rfl))))
    | ((with_reducible first | apply J.psplit0 | apply J.psplit1 | apply J.psplit2); exact rfl; exact rfl; exact rfl)
    | (with_reducible exact J.pl_none)
    | ((with_reducible apply J.gsplit); exact rfl; exact rfl)
    | ((with_reducible first | apply J.cond | apply JC.cond); exact rfl)
    | (intro h; exfalso; (first | (simp at h; done) | (simp at h; omega) | omega))
    | (intro h; (try simp only [decide_eq_true_eq, decide_eq_false_iff_not, beq_iff_eq, beq_eq_false_iff_ne, Bool.not_eq_true', Bool.not_eq_false', bne_iff_ne, bne_eq_false_iff_eq, ne_eq, ge_iff_le, gt_iff_lt] at h))
    | (with_reducible apply J.gave')
    | ((with_reducible apply J.kept'); rotate_left; (repeat (first | (with_reducible exact Outs.nil) | ((with_reducible apply Outs.cons); (repeat (first | with_reducible exact Out.here | with_reducible apply Out.there))))))
  all_goals first
    | (simp only [retv, idxT]; rw [findI_at (p := fun i => teq t (P.getD i tx0)) (by omega) (by assumption) hno]; done)
    | (apply J.againI (s := i) (s' := (i + 1)); (focus (omega)); (focus ((try dsimp only); exact ⟨by omega, fun j hj => (Nat.lt_or_ge j i).elim (hno j) fun h9 => (show j = i from Nat.le_antisymm (Nat.le_of_lt_succ hj) h9).symm ▸ (by assumption)⟩)); (focus (((try dsimp only); repeat (first | exact sub.nil _ | (refine sub.consE rfl ?_ ?_; (first | with_reducible rfl | ((focus (congr 1; omega))) | rfl)))))); ((try dsimp only); (repeat (first | (with_reducible exact Outs.nil) | ((with_reducible apply Outs.cons); (repeat (first | with_reducible exact Out.here | with_reducible apply Out.there)))))))
    | (obtain rfl : i = P.length := by omega
       simp only [retv, idxT]; rw [findI_none (p := fun i => teq t (P.getD i tx0)) hno]; done)
    | (trace_state; fail)
theorem contains_tx (ao : Option Addr) (cap : Nat) (P : List Tx) (t : Tx) (w : World) (hw : Rd w ao (txc P) ∧ TsIn P ∧ TX t ∧ P.length ≤ maxLen) : CSpec Tryz.prog 68 [.slice ao P.length cap, .agg t.cells.toArray] [] w (Gives (.bool (hasT P t))) := by
  obtain ⟨hr, hP, ht, hm⟩ := hw
  refine spec_own0 Tryz.func68 rfl Tryz.ntmps68 rfl (l0 := [(0, .slice ao P.length cap), (1, .agg t.cells.toArray)]) rfl ?_
  repeat' first
    | (refine J.qr ?_; (with_reducible apply exq); focus (first
      | ((with_reducible apply Qr.loadFull); exact rfl; (focus ((repeat (first | with_reducible exact In.here | with_reducible apply In.there)); done)); (with_reducible exact tx_len _))))
    | ((with_reducible apply J.givesR (index_tx ao cap P t)); exact rfl; exact rfl; focus (exact RH.and (RH.old hr) (RH.of ⟨hP, ht, hm⟩)))
    | refine J.one ?_
    | refine J.loudS ?_
    | (refine J.loudQ ?_; intro _ _)
    | (refine J.loudB ?_; intro _)
    | (with_reducible apply J.list)
    | ((with_reducible apply J.gsplit); exact rfl; exact rfl)
    | ((with_reducible first | apply J.cond | apply JC.cond); exact rfl)
    | (intro h; exfalso; fail)
    | (intro h; (try simp only [decide_eq_true_eq, decide_eq_false_iff_not, beq_iff_eq, beq_eq_false_iff_ne, Bool.not_eq_true', Bool.not_eq_false', bne_iff_ne, bne_eq_false_iff_eq, ne_eq, ge_iff_le, gt_iff_lt] at h))
    | (with_reducible apply J.gave')
    | ((with_reducible apply J.kept'); rotate_left; (repeat (first | (with_reducible exact Outs.nil) | ((with_reducible apply Outs.cons); (repeat (first | with_reducible exact Out.here | with_reducible apply Out.there))))))
  all_goals (rfl)
theorem idx_tx (ao : Option Addr) (n cap : Nat) (C : List Value) (N fb : Nat) (cs : List Value) (x : Nat → List Value) (p : Nat → Bool) [Eng.Enters Tryz.prog fb] (w : World) (hw : Rd w ao C ∧ n = N ∧ C.length = N * 25 ∧ N ≤ maxLen ∧ (∀ i, i < N → (C.drop (i * 25)).take 25 = x i ∧ (x i).length = 25) ∧ ∀ i, i < N → ∀ w2, Fr w [] w2 → CSpec Tryz.prog fb (.agg (x i).toArray :: cs) [] w2 (Gives (.bool (p i)))) : CSpec Tryz.prog 107 [.slice ao n cap, fnv fb cs] [] w (Gives (.int .i64 (findI p N))) := by
  obtain ⟨hr, rfl, hCl, hm, hC, hp⟩ := hw
  refine spec_own0 Tryz.func107 rfl Tryz.ntmps107 rfl (l0 := [(0, .slice ao n cap), (1, fnv fb cs)]) rfl ?_
  repeat' first
    | refine J.one ?_
    | refine J.loudS ?_
    | (refine J.loudQ ?_; intro _ _)
    | (refine J.loudB ?_; intro _)
    | (with_reducible apply J.list)
    | ((with_reducible apply J.gsplit); exact rfl; exact rfl)
    | ((with_reducible first | apply J.cond | apply JC.cond); exact rfl)
    | (intro h; exfalso; fail)
    | (intro h; (try simp only [decide_eq_true_eq, decide_eq_false_iff_not, beq_iff_eq, beq_eq_false_iff_ne, Bool.not_eq_true', Bool.not_eq_false', bne_iff_ne, bne_eq_false_iff_eq, ne_eq, ge_iff_le, gt_iff_lt] at h))
    | (with_reducible apply J.gave')
    | ((with_reducible apply J.kept'); rotate_left; (repeat (first | (with_reducible exact Outs.nil) | ((with_reducible apply Outs.cons); (repeat (first | with_reducible exact Out.here | with_reducible apply Out.there))))))
  apply J.loopI (σ := Nat) (I := fun q => (q ≤ n ∧ ∀ j, j < q → p j = false)) (L := fun q => [(0, .slice ao n cap), (1, fnv fb cs), (6, .slice ao n cap), (7, .int .i64 (n : Int)), (8, .int .i64 (q : Int))]) (HH := fun q => []) (m := fun q => n - q) (s0 := 0)
  · ((try dsimp only); (exact ⟨Nat.zero_le _, fun j hj => absurd hj (Nat.not_lt_zero _)⟩))
  · ((try dsimp only); repeat (first | exact sub.nil _ | (refine sub.consE rfl ?_ ?_; (first | with_reducible rfl | (fail) | rfl))))
  · ((try dsimp only); (repeat (first | (with_reducible exact Outs.nil) | ((with_reducible apply Outs.cons); (repeat (first | with_reducible exact Out.here | with_reducible apply Out.there))))))
  rintro i ⟨hI, hno⟩
  try dsimp only at *
  have hm2 := hm
  simp only [maxLen] at hm2
  rcases Nat.lt_or_ge i n with hlt | hge
  · skip
    repeat' first
      | (refine J.qr ?_; (with_reducible apply exq); focus (first
        | ((with_reducible apply Qr.indexRd (k := i) (C := C)); exact rfl; exact rfl; exact rfl; omega; exact RH.old hr; omega)
        | ((with_reducible apply Qr.rdN (C := C)); exact rfl; exact RH.old hr; exact (hC i hlt).1; exact (hC i hlt).2)))
      | ((with_reducible apply J.callV (f := fb) (cs := cs)); exact rfl; exact rfl; exact rfl; exact fun w2 s2 => hp i hlt w2 s2.fr)
      | refine J.one ?_
      | refine J.loudS ?_
      | (refine J.loudQ ?_; intro _ _)
      | (refine J.loudB ?_; intro _)
      | (with_reducible apply J.list)
      | ((with_reducible apply J.gsplit); exact rfl; exact rfl)
      | ((with_reducible first | apply J.cond | apply JC.cond); exact rfl)
      | (intro h; exfalso; (first | (simp at h; done) | (simp at h; omega) | omega))
      | (intro h; (try simp only [decide_eq_true_eq, decide_eq_false_iff_not, beq_iff_eq, beq_eq_false_iff_ne, Bool.not_eq_true', Bool.not_eq_false', bne_iff_ne, bne_eq_false_iff_eq, ne_eq, ge_iff_le, gt_iff_lt] at h))
      | (with_reducible apply J.gave')
      | ((with_reducible apply J.kept'); rotate_left; (repeat (first | (with_reducible exact Outs.nil) | ((with_reducible apply Outs.cons); (repeat (first | with_reducible exact Out.here | with_reducible apply Out.there))))))
    all_goals
      first
      | (simp only [retv]; rw [findI_at hlt (by assumption) hno]; done)
      | (apply J.againI (s := i) (s' := (i + 1)); (focus (omega)); (focus ((try dsimp only); exact ⟨by omega, fun j hj => (Nat.lt_or_ge j i).elim (hno j) fun h9 => (show j = i from Nat.le_antisymm (Nat.le_of_lt_succ hj) h9).symm ▸ h⟩)); (focus (((try dsimp only); repeat (first | exact sub.nil _ | (refine sub.consE rfl ?_ ?_; (first | with_reducible rfl | ((focus (congr 1; omega))) | rfl)))))); ((try dsimp only); (repeat (first | (with_reducible exact Outs.nil) | ((with_reducible apply Outs.cons); (repeat (first | with_reducible exact Out.here | with_reducible apply Out.there)))))))
      | (trace_state; fail)
  · obtain rfl : i = n := by omega
    repeat' first
      | (refine J.qr ?_; (with_reducible apply exq); focus (first
        | ((with_reducible apply Qr.indexRd (k := i) (C := C)); exact rfl; exact rfl; exact rfl; omega; exact RH.old hr; omega)
        | ((with_reducible apply Qr.rdN (C := C)); exact rfl; exact RH.old hr; exact (hC i hlt).1; exact (hC i hlt).2)))
      | ((with_reducible apply J.callV (f := fb) (cs := cs)); exact rfl; exact rfl; exact rfl; exact fun w2 s2 => hp i hlt w2 s2.fr)
      | refine J.one ?_
      | refine J.loudS ?_
      | (refine J.loudQ ?_; intro _ _)
      | (refine J.loudB ?_; intro _)
      | (with_reducible apply J.list)
      | ((with_reducible apply J.gsplit); exact rfl; exact rfl)
      | ((with_reducible first | apply J.cond | apply JC.cond); exact rfl)
      | (intro h; exfalso; (first | (simp at h; done) | (simp at h; omega) | omega))
      | (intro h; (try simp only [decide_eq_true_eq, decide_eq_false_iff_not, beq_iff_eq, beq_eq_false_iff_ne, Bool.not_eq_true', Bool.not_eq_false', bne_iff_ne, bne_eq_false_iff_eq, ne_eq, ge_iff_le, gt_iff_lt] at h))
      | (with_reducible apply J.gave')
      | ((with_reducible apply J.kept'); rotate_left; (repeat (first | (with_reducible exact Outs.nil) | ((with_reducible apply Outs.cons); (repeat (first | with_reducible exact Out.here | with_reducible apply Out.there))))))
    all_goals
      first
      | (simp only [retv]; rw [findI_none hno]; done)
      | (trace_state; fail)
theorem some_tx (ao : Option Addr) (cap : Nat) (P : List Tx) (fb : Nat) (cs : List Value) (p : Nat → Bool) [Eng.Enters Tryz.prog fb] (w : World) (hw : Rd w ao (txc P) ∧ P.length ≤ maxLen ∧ ∀ i, i < P.length → ∀ w2, Fr w [] w2 → CSpec Tryz.prog fb (.agg (P.getD i tx0).cells.toArray :: cs) [] w2 (Gives (.bool (p i)))) : CSpec Tryz.prog 72 [.slice ao P.length cap, fnv fb cs] [] w (Gives (.bool (decide (0 ≤ findI p P.length)))) := by
  obtain ⟨hr, hm, hp⟩ := hw
  refine spec_own0 Tryz.func72 rfl Tryz.ntmps72 rfl (l0 := [(0, .slice ao P.length cap), (1, fnv fb cs)]) rfl ?_
  repeat' first
    | ((with_reducible apply J.givesR (idx_tx ao P.length cap (txc P) P.length fb cs (fun i => (P.getD i tx0).cells) p)); exact rfl; exact rfl; focus (exact fun w2 s2 => ⟨RH.old hr w2 s2, rfl, txc_length P, hm, fun i hi => ⟨txc_at hi, rfl⟩, fun i hi w3 f3 => hp i hi w3 (s2.fr.trans0 f3)⟩))
    | refine J.one ?_
    | refine J.loudS ?_
    | (refine J.loudQ ?_; intro _ _)
    | (refine J.loudB ?_; intro _)
    | (with_reducible apply J.list)
    | ((with_reducible apply J.gsplit); exact rfl; exact rfl)
    | ((with_reducible first | apply J.cond | apply JC.cond); exact rfl)
    | (intro h; exfalso; fail)
    | (intro h; (try simp only [decide_eq_true_eq, decide_eq_false_iff_not, beq_iff_eq, beq_eq_false_iff_ne, Bool.not_eq_true', Bool.not_eq_false', bne_iff_ne, bne_eq_false_iff_eq, ne_eq, ge_iff_le, gt_iff_lt] at h))
    | (with_reducible apply J.gave')
    | ((with_reducible apply J.kept'); rotate_left; (repeat (first | (with_reducible exact Outs.nil) | ((with_reducible apply Outs.cons); (repeat (first | with_reducible exact Out.here | with_reducible apply Out.there))))))
  all_goals (rfl)
/-- One that is gone. -/
def gone (P : List Tx) (i : Nat) : List Tx := P.take i ++ P.drop (i + 1)
theorem gone_length {P : List Tx} {i : Nat} (h : i < P.length) : (gone P i).length = P.length - 1 := by
  unfold gone
  rw [List.length_append, List.length_take, List.length_drop]
  omega
theorem gone_cells {P : List Tx} {i : Nat} (h : i < P.length) : (txc P).take (i * 25) ++ (txc P).drop ((i + 1) * 25) = txc (gone P i) := by
  rw [txc_take (by omega), txc_drop (by omega), txc_join]
  rfl
theorem gone_in {P : List Tx} {i : Nat} (h : TsIn P) : TsIn (gone P i) := fun t ht => by
  rcases List.mem_append.1 ht with h1 | h1
  · exact h t (List.mem_of_mem_take h1)
  · exact h t (List.mem_of_mem_drop h1)
/-- A slice of transactions that is left. -/
def TxR (T : List Tx) (H1 : List Asrt) : Ending → List Asrt → Prop := fun e H => ∃ q : Option Addr × Nat, T.length ≤ q.2 ∧ e = .returned (.slice q.1 T.length q.2) ∧ H = row (.slice q.1 T.length q.2) 50 25 T.length (txc T) :: H1
theorem delete_tx (ao : Option Addr) (cap : Nat) (P : List Tx) (i : Nat) (w : World) (hw : i < P.length ∧ P.length ≤ maxLen) : CSpec Tryz.prog 69 [.slice ao P.length cap, .int .i64 (i : Int), .int .i64 ((i : Int) + 1)] [row (.slice ao P.length cap) 50 25 P.length (txc P)] w (TxR (gone P i) []) := by
  obtain ⟨hi, hm⟩ := hw
  have hm9 : P.length ≤ 9223372036854775807 := by unfold maxLen at hm; omega
  refine spec_of Tryz.func69 rfl Tryz.ntmps69 rfl (l0 := [(0, .slice ao P.length cap), (1, .int .i64 (i : Int)), (2, .int .i64 ((i : Int) + 1))]) rfl ?_
  intro fp
  apply J.openRow (E := 50) (sz := 25) (C := txc P) (v := .slice ao P.length cap) (n := P.length)
  · (repeat (first | with_reducible exact Out.here | with_reducible apply Out.there))
  · omega
  intro g' cap' e9
  simp only [Value.slice.injEq, true_and] at e9
  obtain ⟨rfl, rfl⟩ := e9
  refine J.rowCap (by (repeat (first | with_reducible exact In.here | with_reducible apply In.there))) ?_
  intro hcap
  repeat' first
    | (refine J.qv ?_; (with_reducible apply exq); focus (first
      | ((with_reducible apply Qv.sl3 (p := i) (r := i + 1) (m := P.length)); exact rfl; (exact Bd.some rfl rfl); exact rfl; (first | rfl | omega); exact rfl; (first | rfl | omega); omega; omega; omega)
      | ((with_reducible apply Qv.sl (p := 0) (r := i)); exact rfl; exact Bd.none; (exact Bd.some rfl rfl); omega; omega)
      | ((with_reducible apply Qv.sl (p := i + 1) (r := P.length)); exact rfl; (exact Bd.some rfl (by omega)); exact Bd.none; omega; omega)
      | ((with_reducible apply Qv.sl (p := i + (P.length - (i + 1))) (r := P.length)); exact rfl; (exact Bd.some rfl (by omega)); (exact Bd.some rfl rfl); omega; omega)))
    | ((with_reducible apply J.appendIn (i0 := i) (j := i + 1)); exact rfl; exact rfl; exact rfl; (repeat (first | with_reducible exact Out.here | with_reducible apply Out.there)); omega; omega; exact txc_ones P)
    | ((with_reducible apply J.clearTail (m := i + (P.length - (i + 1)))); exact rfl; (repeat (first | with_reducible exact In.here | with_reducible apply In.there)); omega; omega; exact rfl; exact rfl)
    | refine J.one ?_
    | refine J.loudS ?_
    | (refine J.loudQ ?_; intro _ _)
    | (refine J.loudB ?_; intro _)
    | (with_reducible apply J.list)
    | ((with_reducible apply J.draw (id := 5) [0, 0, 3, 0, 0, 24, 63, 127] (.p 0 (.p 1 (.p 2 (.p 3 (.p 4 (.p 5 (.x 6 (.p 7 .nil) .none))))))) (by kernel_rfl) ?_ (by kernel_rfl) ?_); (repeat (with_reducible first | exact PanicFree.body | exact PanicFree.np | exact PanicFree.lvS | apply PanicFree.then_ | apply PanicFree.blk)))
    | ((with_reducible apply J.pl2); exact rfl; (first | exact Gd.none | ((with_reducible apply Gd.on); exact rfl; exact rfl)); (repeat (first | (with_reducible exact PendF.nil) | ((with_reducible apply PendF.keep); exact rfl) | ((with_reducible apply PendF.gone); exact rfl))))
    | ((with_reducible apply J.pl2_off); exact rfl; ((with_reducible apply Gd.off); exact rfl; exact rfl; exact rfl); exact rfl; (repeat (first | (with_reducible exact PendF.nil) | ((with_reducible apply PendF.keep); exact rfl) | ((with_reducible apply PendF.gone); exact rfl))))
    | ((with_reducible apply J.pl2_off_none); exact rfl; ((with_reducible apply Gd.off); exact rfl; exact rfl; exact rfl); (repeat (first | (with_reducible exact PendF.nil) | ((with_reducible apply PendF.keep); exact rfl) | ((with_reducible apply PendF.gone); exact rfl))))
    | ((with_reducible first | apply J.psplit0 | apply J.psplit1 | apply J.psplit2); exact rfl; exact rfl; exact rfl)
    | (with_reducible exact J.pl_none)
    | ((with_reducible apply J.gsplit); exact rfl; exact rfl)
    | ((with_reducible first | apply J.cond | apply JC.cond); exact rfl)
    | (intro h; exfalso; (first | (simp at h; done) | (simp at h; omega) | omega))
    | (intro h; (try simp only [decide_eq_true_eq, decide_eq_false_iff_not, beq_iff_eq, beq_eq_false_iff_ne, Bool.not_eq_true', Bool.not_eq_false', bne_iff_ne, bne_eq_false_iff_eq, ne_eq, ge_iff_le, gt_iff_lt] at h))
    | (with_reducible apply J.gave')
    | ((with_reducible apply J.kept'); rotate_left; (repeat (first | (with_reducible exact Outs.nil) | ((with_reducible apply Outs.cons); (repeat (first | with_reducible exact Out.here | with_reducible apply Out.there))))))
  all_goals
    first
    | (have e1 : i + (P.length - (i + 1)) = (gone P i).length := by rw [gone_length hi]; omega
       refine J.shutRow (by (repeat (first | with_reducible exact Out.here | with_reducible apply Out.there))) ?_
       refine J.reR (by (repeat (first | with_reducible exact Upd.here | with_reducible apply Upd.there))) (congrArg (fun x => Value.slice (some ⟨g', 0, none⟩) x cap) e1) e1 (gone_cells hi) ?_
       exact J.post (R := TxR (gone P i) []) ⟨(some ⟨g', 0, none⟩, cap), by rw [gone_length hi]; omega, by rw [← e1]; rfl, rfl⟩ (by (repeat (first | (with_reducible exact Outs.nil) | ((with_reducible apply Outs.cons); (repeat (first | with_reducible exact Out.here | with_reducible apply Out.there)))))))
    | (trace_state; fail)
end Go.Proofs.YtljbedladifgmaaGreat.Cht
namespace Go.Proofs.YtljbedladifgmaaGreat.Chn
open Go Go.RowKit Eng
set_option linter.unusedVariables false
set_option maxRecDepth 100000
set_option linter.unusedSimpArgs false
open Wide Purse Tx Sha Ss Esc Vau Lck Do Prep Ful Doo Tri App Inn Low Gene Alv Kee Txl Cht Deal Mss Ots Hash Bytes
set_option maxHeartbeats 1000000
/-- A ledger. -/
structure CS where
  s : SS
  L : List Lk
  P : List Tx
  E : List Ev
abbrev Q2 := Option Addr × Nat
def CS.tail (c : CS) (q2 q3 : Q2) : List Value := [.slice q2.1 c.P.length q2.2, .slice q3.1 c.E.length q3.2, .bool true]
def CS.cells (c : CS) (q1 q2 q3 : Q2) : List Value := c.s.cells (.slice q1.1 c.L.length q1.2) ++ c.tail q2 q3
theorem CS.len (c : CS) (q1 q2 q3 : Q2) : (c.cells q1 q2 q3).length = 154 := by
  unfold CS.cells
  rw [List.length_append, SS.len]
  rfl
theorem CS.st (c : CS) (q1 q2 q3 : Q2) : ((c.cells q1 q2 q3).drop 0).take 151 = c.s.cells (.slice q1.1 c.L.length q1.2) := by
  unfold CS.cells
  rw [List.drop_zero]
  exact List.take_left' (SS.len _ _)
theorem CS.hi (c : CS) (q1 q2 q3 : Q2) (k : Nat) : (c.cells q1 q2 q3)[151 + k]? = (c.tail q2 q3)[k]? := by
  unfold CS.cells
  rw [List.getElem?_append_right (by rw [SS.len]; omega), SS.len, show 151 + k - 151 = k by omega]
theorem CS.lo (c : CS) (q1 q2 q3 : Q2) {k : Nat} (h : k < 151) : (c.cells q1 q2 q3)[k]? = (c.s.cells (.slice q1.1 c.L.length q1.2))[k]? := by
  unfold CS.cells
  exact List.getElem?_append_left (by rw [SS.len]; exact h)
theorem CS.gP (c : CS) (q1 q2 q3 : Q2) : (c.cells q1 q2 q3)[151]? = some (.slice q2.1 c.P.length q2.2) := c.hi q1 q2 q3 0
theorem CS.gE (c : CS) (q1 q2 q3 : Q2) : (c.cells q1 q2 q3)[152]? = some (.slice q3.1 c.E.length q3.2) := c.hi q1 q2 q3 1
theorem CS.gM (c : CS) (q1 q2 q3 : Q2) : (c.cells q1 q2 q3)[153]? = some (.bool true) := c.hi q1 q2 q3 2
theorem CS.gT (c : CS) (q1 q2 q3 : Q2) : (c.cells q1 q2 q3)[1]? = some (.int .i64 c.s.time) := (c.lo q1 q2 q3 (by decide)).trans (c.s.g1 _)
theorem CS.gN (c : CS) (q1 q2 q3 : Q2) {i : Nat} (h : i < 8) : (c.cells q1 q2 q3)[130 + i]? = some (.int .i64 (c.s.no i)) := (c.lo q1 q2 q3 (by omega)).trans (c.s.g4 _ h)
abbrev CS.wS (c : CS) (s : SS) (L : List Lk) : CS := ⟨s, L, c.P, c.E⟩
abbrev CS.wP (c : CS) (P : List Tx) : CS := ⟨c.s, c.L, P, c.E⟩
abbrev CS.wE (c : CS) (E : List Ev) : CS := ⟨c.s, c.L, c.P, E⟩
theorem splice0 {A T B : List Value} (h : B.length = A.length) : splice (A ++ T) 0 B = B ++ T := by
  simp [splice, h]
theorem CS.sS (c : CS) (q1 q2 q3 : Q2) (s : SS) (L : List Lk) (q : Q2) : splice (c.cells q1 q2 q3) 0 (s.cells (.slice q.1 L.length q.2)) = (c.wS s L).cells q q2 q3 := by
  exact splice0 (by rw [SS.len, SS.len])
theorem CS.sP (c : CS) (q1 q2 q3 : Q2) (P : List Tx) (q : Q2) : splice (c.cells q1 q2 q3) 151 [.slice q.1 P.length q.2] = (c.wP P).cells q1 q q3 := by
  unfold CS.cells
  have h := SS.len c.s (.slice q1.1 c.L.length q1.2)
  unfold splice
  rw [List.take_left' h, List.drop_append, List.drop_eq_nil_of_le (by rw [h]; simp), h]
  simp [CS.tail, CS.wP]
theorem CS.sE (c : CS) (q1 q2 q3 : Q2) (E : List Ev) (q : Q2) : splice (c.cells q1 q2 q3) 152 [.slice q.1 E.length q.2] = (c.wE E).cells q1 q2 q := by
  unfold CS.cells
  have h := SS.len c.s (.slice q1.1 c.L.length q1.2)
  unfold splice
  rw [List.take_append, List.take_of_length_le (by omega), List.drop_append, List.drop_eq_nil_of_le (by rw [h]; simp), h]
  simp [CS.tail, CS.wE]
theorem CS.sPn (c : CS) (q1 q2 q3 : Q2) (P : List Tx) (q : Q2) {n : Nat} (h : n = P.length) : splice (c.cells q1 q2 q3) 151 [.slice q.1 n q.2] = (c.wP P).cells q1 q q3 := by
  subst h
  exact c.sP q1 q2 q3 P q
theorem CS.sEn (c : CS) (q1 q2 q3 : Q2) (E : List Ev) (q : Q2) {n : Nat} (h : n = E.length) : splice (c.cells q1 q2 q3) 152 [.slice q.1 n q.2] = (c.wE E).cells q1 q2 q := by
  subst h
  exact c.sE q1 q2 q3 E q
/-- The parts of a ledger in memory. -/
def CS.hs (b : Nat) (c : CS) (q1 q2 q3 : Q2) : List Asrt := [blk b (c.cells q1 q2 q3) 88, row (.slice q1.1 c.L.length q1.2) 58 3 c.L.length (lcs c.L), row (.slice q2.1 c.P.length q2.2) 50 25 c.P.length (txc c.P), row (.slice q3.1 c.E.length q3.2) 72 27 c.E.length (evc c.E)]
def chn (b : Nat) (c : CS) : Asrt where
  holds h fp := ∃ q1 q2 q3, Holds h (c.hs b q1 q2 q3) fp
  loc h h' fp he := by
    rintro ⟨q1, q2, q3, hh⟩
    exact ⟨q1, q2, q3, hh.loc he⟩
/-- What can be read of a ledger. -/
def ChRd (w : World) (b : Nat) (c : CS) : Prop := ∃ q1 q2 q3 : Q2, Rd w (some ⟨b, 0, none⟩) (c.cells q1 q2 q3) ∧ Rd w q1.1 (lcs c.L) ∧ Rd w q2.1 (txc c.P) ∧ Rd w q3.1 (evc c.E) ∧ c.E.length ≤ q3.2
section
variable {P : Program} {c : Cx} {l : TL} {H : List Asrt} {Q : Exit → Act → World → Prop} {X : Act → World → Prop} {G : Act → World → Prop}
variable {ty : TypeId} {pos : String} {af : Array Edge} {d : Nat} {v : Value} {dst : Option Tmp} {mm : Nat}
theorem J.openCh {b : Nat} {k : CS} {H' : List Asrt} (ho : Out (chn b k) H H') (K : ∀ q1 q2 q3 : Q2, J c l (blk b (k.cells q1 q2 q3) 88 :: row (.slice q1.1 k.L.length q1.2) 58 3 k.L.length (lcs k.L) :: row (.slice q2.1 k.P.length q2.2) 50 25 k.P.length (txc k.P) :: row (.slice q3.1 k.E.length q3.2) 72 27 k.E.length (evc k.E) :: H') G) : J c l H G := J.mk fun a w s => by
  obtain ⟨fp, ⟨f, g, rfl, ⟨q1, q2, q3, hh⟩, hg⟩, hn, hi, hf⟩ := s.2.2.perm ho.perm
  exact (K q1 q2 q3).out a w ⟨s.1, s.2.1, f ++ g, hh.append hg, hn, hi, hf⟩
theorem Sat.shutCh {w0 w : World} {own : List Nat} {b : Nat} {k : CS} {q1 q2 q3 : Q2} {H' : List Asrt} (s : Sat w0 own (k.hs b q1 q2 q3 ++ H') w) : Sat w0 own (chn b k :: H') w := by
  obtain ⟨fp, hh, hn, hi, hf⟩ := s
  obtain ⟨f, g, rfl, h1, h2⟩ := hh.split
  exact ⟨f ++ g, ⟨f, g, rfl, ⟨q1, q2, q3, h1⟩, h2⟩, hn, hi, hf⟩
/-- A ledger is left so. -/
def ChR (r : Value) (b : Nat) (k : CS) : Ending → List Asrt → Prop := fun e H => e = .returned r ∧ H = [chn b k]
theorem J.endCh {b : Nat} {k k' : CS} {q1 q2 q3 : Q2} {r r' : Value} {R : List Asrt} (ho : Outs (k'.hs b q1 q2 q3) H R) (e : k' = k) (er : r = r') : J c l H (fun _ w => ∃ H3, ChR r' b k (.returned r) H3 ∧ Sat c.w0 c.own H3 w) := by
  subst e; subst er
  refine J.mk fun a w s => ⟨[chn b k'], ⟨rfl, rfl⟩, ?_⟩
  have h1 := Sat.shutCh (s.2.2.perm ho.perm)
  exact Sat.drops (H' := R) (H := [chn b k']) (h1.perm (List.perm_append_comm (l₁ := [chn b k']) (l₂ := R)))
theorem Sat.rd_chn {w0 w : World} {own : List Nat} {b : Nat} {k : CS} (s : Sat w0 own H w) (hm : In (chn b k) H) : ChRd w b k := by
  obtain ⟨s', t', rfl⟩ := List.append_of_mem hm.mem
  have p : (s' ++ chn b k :: t').Perm (chn b k :: (s' ++ t')) := List.perm_middle
  obtain ⟨fp, ⟨f, g, rfl, ⟨q1, q2, q3, hh⟩, hg⟩, hn, hi, hf⟩ := s.perm p
  have s2 : Sat w0 own (k.hs b q1 q2 q3 ++ (s' ++ t')) w := ⟨f ++ g, hh.append hg, hn, hi, hf⟩
  have e1 := s2.rd_blk (off := 0) (b := b) (E := 88) (C := k.cells q1 q2 q3) .here (k.cells q1 q2 q3).length
  rw [List.drop_zero, List.take_length] at e1
  exact ⟨q1, q2, q3, e1, (s2.rd_row (.there .here)).1, (s2.rd_row (.there (.there .here))).1, (s2.rd_row (.there (.there (.there .here)))).1, (s2.rd_row (.there (.there (.there .here)))).2.1⟩
theorem RH.chn {w0 : World} {own : List Nat} {b : Nat} {k : CS} (hm : In (chn b k) H) : RH w0 own H (fun w => ChRd w b k) := fun _ s => Sat.rd_chn s hm
/-- A call that turns a ledger. -/
theorem J.chE {f b : Nat} [i : Eng.Enters P f] {xs : List Operand} {ts : Array TypeId} {vs : List Value} {k k' : CS} {R : List Asrt} {pre : World → Prop} (hS : ∀ w, pre w → CSpec P f vs [chn b k] w (ChR v b k')) (hd : Nat.blt d c.n = true) (hx : evs l xs = some vs) (ho : Outs [chn b k] H R) (hp : RH c.w0 c.own H pre)
    (K : J c ((d, v) :: l) (chn b k' :: R) X) : J c l H (OW P Q ⟨some d, .call ⟨.value (.func f), xs.toArray, ts⟩, ty, pos, af, none⟩ X) :=
  J.callS hd hx ho (fun w s => hS w (hp w s)) (fun v' H3 ⟨h1, h2⟩ => by
    cases h1; subst h2
    exact K) (fun ch H3 ⟨h1, _⟩ => by cases h1) (fun H3 ⟨h1, _⟩ => by cases h1)
end
end Go.Proofs.YtljbedladifgmaaGreat.Chn
namespace Go.Proofs.YtljbedladifgmaaGreat.Chm
open Go Go.RowKit Eng
set_option linter.unusedVariables false
set_option maxRecDepth 100000
set_option linter.unusedSimpArgs false
open Wide Purse Tx Sha Ss Esc Vau Lck Do Prep Ful Doo Tri App Inn Low Gene Alv Kee Txl Cht Chn Deal Mss Ots Hash Bytes
set_option maxHeartbeats 1000000
section
variable {P : Program} {c : Cx} {l : TL} {H : List Asrt} {Q : Exit → Act → World → Prop} {X : Act → World → Prop} {G : Act → World → Prop}
variable {ty : TypeId} {pos : String} {af : Array Edge} {d : Nat} {v : Value} {dst : Option Tmp} {mm : Nat}
theorem J.build1 {T E bytes n : Nat} {z : List Value} [i : Sl P T E bytes] [t : Ty P E true n z] {x : Operand} {cs : List Value} (hd : Nat.blt d c.n = true) (hx : ev l x = some (.agg cs.toArray)) (hl : cs.length = n) (hz : z.length = n) (hb : Nat.ble (1 * n) 1000 = true) (hpos : (1 * n == 0) = false)
    (K : ∀ b, J c ((d, .slice (some ⟨b, 0, none⟩) 1 1) :: l) (blk b cs E :: H) X) : J c l H (OW P Q ⟨some d, .buildSlice T 1 #[(0, x)], ty, pos, af, none⟩ X) :=
  J.buildSlice (xs := [(0, x)]) (vs := [(0, .agg cs.toArray)]) hd (by simp [evp, hx]) hz hb hpos (by
    have hr : (rep 1 z).length = n := by simp [rep, hz]
    refine bf_cons (C' := cs) (off := 0) (size := n) (by simp) (by simpa [Value.cells] using hl) (by omega) ?_ rfl
    show splice (rep 1 z) 0 cs = cs
    exact splice_all (by rw [hr, hl])) K
end
theorem is_c (b : Nat) (C : List Value) (v : Bool) (w : World) (hw : Rd w (some ⟨b, 0, none⟩) C ∧ C[153]? = some (.bool v)) : CSpec Tryz.prog 67 [.pointer (some ⟨b, 0, none⟩)] [] w (Gives (.bool v)) := by
  obtain ⟨hr, hv⟩ := hw
  refine spec_own0 Tryz.func67 rfl Tryz.ntmps67 rfl (l0 := [(0, .pointer (some ⟨b, 0, none⟩))]) rfl ?_
  repeat' first
    | (refine J.qr ?_; (with_reducible apply exq); focus (first
      | ((with_reducible apply Qr.rd1 (ao := some ⟨b, 0, none⟩) (C := C) (j := 153)); exact rfl; exact RH.old hr; exact hv)))
    | refine J.one ?_
    | refine J.loudS ?_
    | (refine J.loudQ ?_; intro _ _)
    | (refine J.loudB ?_; intro _)
    | (with_reducible apply J.list)
    | ((with_reducible apply J.gsplit); exact rfl; exact rfl)
    | ((with_reducible first | apply J.cond | apply JC.cond); exact rfl)
    | (intro h; exfalso; (simp at h; done))
    | (intro h; (try simp only [decide_eq_true_eq, decide_eq_false_iff_not, beq_iff_eq, beq_eq_false_iff_ne, Bool.not_eq_true', Bool.not_eq_false', bne_iff_ne, bne_eq_false_iff_eq, ne_eq, ge_iff_le, gt_iff_lt] at h))
    | (with_reducible apply J.gave')
    | ((with_reducible apply J.kept'); rotate_left; (repeat (first | (with_reducible exact Outs.nil) | ((with_reducible apply Outs.cons); (repeat (first | with_reducible exact Out.here | with_reducible apply Out.there))))))
  all_goals (rfl)
theorem is_n  (w : World) (hw : True) : CSpec Tryz.prog 67 [.pointer none] [] w (Gives (.bool false)) := by
  refine spec_own0 Tryz.func67 rfl Tryz.ntmps67 rfl (l0 := [(0, .pointer none)]) rfl ?_
  repeat' first
    | refine J.one ?_
    | refine J.loudS ?_
    | (refine J.loudQ ?_; intro _ _)
    | (refine J.loudB ?_; intro _)
    | (with_reducible apply J.list)
    | ((with_reducible apply J.gsplit); exact rfl; exact rfl)
    | ((with_reducible first | apply J.cond | apply JC.cond); exact rfl)
    | (intro h; exfalso; (simp at h; done))
    | (intro h; (try simp only [decide_eq_true_eq, decide_eq_false_iff_not, beq_iff_eq, beq_eq_false_iff_ne, Bool.not_eq_true', Bool.not_eq_false', bne_iff_ne, bne_eq_false_iff_eq, ne_eq, ge_iff_le, gt_iff_lt] at h))
    | (with_reducible apply J.gave')
    | ((with_reducible apply J.kept'); rotate_left; (repeat (first | (with_reducible exact Outs.nil) | ((with_reducible apply Outs.cons); (repeat (first | with_reducible exact Out.here | with_reducible apply Out.there))))))
  all_goals (rfl)
def CS.new (side time : Int) : CS := ⟨genS side time, [], [], []⟩
theorem bf_ch {pl : List (Nat × Nat)} {z : List Value} (s : SS) (hz : z = zS.cells (.slice none 0 0) ++ [.slice none 0 0, .slice none 0 0, .bool false]) (h0 : pl[0]? = some (0, 151)) (h3 : pl[3]? = some (153, 1)) : bfill (fun i => pl[i]?) z [(0, .agg (s.cells (.slice none 0 0)).toArray), (3, .bool true)] = some ((⟨s, [], [], []⟩ : CS).cells (none, 0) (none, 0) (none, 0)) := by
  subst hz
  have hl := SS.len s (.slice none 0 0)
  refine bf_cons (C' := s.cells (.slice none 0 0) ++ [.slice none 0 0, .slice none 0 0, .bool false]) h0 (show ((s.cells (.slice none 0 0)).toArray).toList.length = 151 from hl) (by rw [List.length_append, SS.len]; simp) (splice0 (A := zS.cells (.slice none 0 0)) (B := s.cells (.slice none 0 0)) (by rw [SS.len, SS.len])) ?_
  refine bf_cons (C' := s.cells (.slice none 0 0) ++ [.slice none 0 0, .slice none 0 0, .bool true]) h3 rfl (by rw [List.length_append, SS.len]; simp) ?_ rfl
  show splice _ 153 [.bool true] = _
  unfold splice
  rw [List.take_append, List.take_of_length_le (by omega), List.drop_append, List.drop_eq_nil_of_le (by rw [hl]; simp), hl]
  simp
/-- A new ledger. -/
def NewR (k : CS) : Ending → List Asrt → Prop := fun e H => ∃ b, e = .returned (.pointer (some ⟨b, 0, none⟩)) ∧ H = [chn b k]
theorem J.endNew {c : Cx} {l : TL} {H R : List Asrt} {b : Nat} {k : CS} {q1 q2 q3 : Q2} {r : Value} (er : r = .pointer (some ⟨b, 0, none⟩)) (ho : Outs (k.hs b q1 q2 q3) H R) : J c l H (fun _ w => ∃ H3, NewR k (.returned r) H3 ∧ Sat c.w0 c.own H3 w) := by
  subst er
  refine J.mk fun a w s => ⟨[chn b k], ⟨b, rfl, rfl⟩, ?_⟩
  have h1 := Sat.shutCh (s.2.2.perm ho.perm)
  exact Sat.drops (H' := R) (H := [chn b k]) (h1.perm (List.perm_append_comm (l₁ := [chn b k]) (l₂ := R)))
theorem J.newE {P : Program} {c : Cx} {l : TL} {H : List Asrt} {Q : Exit → Act → World → Prop} {X : Act → World → Prop} {ty : TypeId} {pos : String} {af : Array Edge} {d : Nat} {f : Nat} [i : Eng.Enters P f] {xs : List Operand} {ts : Array TypeId} {vs : List Value} {k : CS} (hS : ∀ w, CSpec P f vs [] w (NewR k)) (hd : Nat.blt d c.n = true) (hx : evs l xs = some vs)
    (K : ∀ b, J c ((d, .pointer (some ⟨b, 0, none⟩)) :: l) (chn b k :: H) X) : J c l H (OW P Q ⟨some d, .call ⟨.value (.func f), xs.toArray, ts⟩, ty, pos, af, none⟩ X) :=
  J.callS hd hx .nil (fun w s => hS w) (fun v' H3 ⟨b, h1, h2⟩ => by
    cases h1; subst h2
    exact K b) (fun ch H3 ⟨b, h1, _⟩ => by cases h1) (fun H3 ⟨b, h1, _⟩ => by cases h1)
theorem new_ (side time : Int) (w : World) : CSpec Tryz.prog 25 [.int .i64 side, .int .i64 time] [] w (NewR (CS.new side time)) := by
  refine spec_own0 Tryz.func25 rfl Tryz.ntmps25 rfl (l0 := [(0, .int .i64 side), (1, .int .i64 time)]) rfl ?_
  repeat' first
    | (refine J.qv ?_; (with_reducible apply exq); focus (first
      | ((with_reducible apply Qv.buildS (T := 88)); exact rfl; (refine bf_ch _ ?_ rfl rfl; kernel_rfl))))
    | ((with_reducible apply J.givesW (gen_ _ _)); exact rfl; exact rfl)
    | refine J.one ?_
    | refine J.loudS ?_
    | (refine J.loudQ ?_; intro _ _)
    | (refine J.loudB ?_; intro _)
    | (with_reducible apply J.list)
    | ((with_reducible apply J.gsplit); exact rfl; exact rfl)
    | ((with_reducible first | apply J.cond | apply JC.cond); exact rfl)
    | (intro h; exfalso; (simp at h; done))
    | (intro h; (try simp only [decide_eq_true_eq, decide_eq_false_iff_not, beq_iff_eq, beq_eq_false_iff_ne, Bool.not_eq_true', Bool.not_eq_false', bne_iff_ne, bne_eq_false_iff_eq, ne_eq, ge_iff_le, gt_iff_lt] at h))
    | (with_reducible apply J.gave')
    | ((with_reducible apply J.kept'); rotate_left; (repeat (first | (with_reducible exact Outs.nil) | ((with_reducible apply Outs.cons); (repeat (first | with_reducible exact Out.here | with_reducible apply Out.there))))))
  all_goals first
    | (refine J.nilRow 58 3 ?_
       refine J.nilRow 50 25 ?_
       refine J.nilRow 72 27 ?_
       exact J.endNew (k := CS.new side time) (q1 := (none, 0)) (q2 := (none, 0)) (q3 := (none, 0)) rfl (by unfold CS.hs; exact (.cons (.there (.there (.there .here))) (.cons (.there (.there .here)) (.cons (.there .here) (.cons .here .nil))))))
    | (trace_state; fail)
theorem time_ (b : Nat) (k : CS) (w : World) (hw : ChRd w b k ∧ True) : CSpec Tryz.prog 31 [.pointer (some ⟨b, 0, none⟩)] [] w (Gives (.int .i64 k.s.time)) := by
  obtain ⟨⟨q1, q2, q3, hC, hL, hP, hE, hcE⟩, hb⟩ := hw
  refine spec_own0 Tryz.func31 rfl Tryz.ntmps31 rfl (l0 := [(0, .pointer (some ⟨b, 0, none⟩))]) rfl ?_
  repeat' first
    | (refine J.qr ?_; (with_reducible apply exq); focus (first
      | ((with_reducible apply Qr.rd1 (ao := some ⟨b, 0, none⟩) (C := k.cells q1 q2 q3) (j := 151)); exact rfl; exact RH.old hC; exact CS.gP k q1 q2 q3)
      | ((with_reducible apply Qr.rd1 (ao := some ⟨b, 0, none⟩) (C := k.cells q1 q2 q3) (j := 152)); exact rfl; exact RH.old hC; exact CS.gE k q1 q2 q3)
      | ((with_reducible apply Qr.rd1 (ao := some ⟨b, 0, none⟩) (C := k.cells q1 q2 q3) (j := 153)); exact rfl; exact RH.old hC; exact CS.gM k q1 q2 q3)
      | ((with_reducible apply Qr.rd1 (ao := some ⟨b, 0, none⟩) (C := k.cells q1 q2 q3) (j := 1)); exact rfl; exact RH.old hC; exact CS.gT k q1 q2 q3)
      | ((with_reducible apply Qr.rdN (ao := some ⟨b, 0, none⟩) (C := k.cells q1 q2 q3) (j := 0) (cs := k.s.cells (.slice q1.1 k.L.length q1.2))); exact rfl; exact RH.old hC; exact CS.st k q1 q2 q3; with_reducible exact SS.len _ _)))
    | ((with_reducible apply J.givesR (is_c b (k.cells q1 q2 q3) true)); exact rfl; exact rfl; focus (exact RH.and (RH.old hC) (RH.of (CS.gM k q1 q2 q3))))
    | refine J.one ?_
    | refine J.loudS ?_
    | (refine J.loudQ ?_; intro _ _)
    | (refine J.loudB ?_; intro _)
    | (with_reducible apply J.list)
    | ((with_reducible apply J.gsplit); exact rfl; exact rfl)
    | ((with_reducible first | apply J.cond | apply JC.cond); exact rfl)
    | (intro h; exfalso; (simp at h; done))
    | (intro h; (try simp only [decide_eq_true_eq, decide_eq_false_iff_not, beq_iff_eq, beq_eq_false_iff_ne, Bool.not_eq_true', Bool.not_eq_false', bne_iff_ne, bne_eq_false_iff_eq, ne_eq, ge_iff_le, gt_iff_lt] at h))
    | (with_reducible apply J.gave')
    | ((with_reducible apply J.kept'); rotate_left; (repeat (first | (with_reducible exact Outs.nil) | ((with_reducible apply Outs.cons); (repeat (first | with_reducible exact Out.here | with_reducible apply Out.there))))))
  all_goals (rfl)
theorem pool_ (b : Nat) (k : CS) (w : World) (hw : ChRd w b k ∧ k.P.length ≤ 1000) : CSpec Tryz.prog 28 [.pointer (some ⟨b, 0, none⟩)] [] w (Fresh 50 25 k.P.length (txc k.P) []) := by
  obtain ⟨⟨q1, q2, q3, hC, hL, hP, hE, hcE⟩, hb⟩ := hw
  refine spec_own0 Tryz.func28 rfl Tryz.ntmps28 rfl (l0 := [(0, .pointer (some ⟨b, 0, none⟩))]) rfl ?_
  repeat' first
    | (refine J.qr ?_; (with_reducible apply exq); focus (first
      | ((with_reducible apply Qr.rd1 (ao := some ⟨b, 0, none⟩) (C := k.cells q1 q2 q3) (j := 151)); exact rfl; exact RH.old hC; exact CS.gP k q1 q2 q3)
      | ((with_reducible apply Qr.rd1 (ao := some ⟨b, 0, none⟩) (C := k.cells q1 q2 q3) (j := 152)); exact rfl; exact RH.old hC; exact CS.gE k q1 q2 q3)
      | ((with_reducible apply Qr.rd1 (ao := some ⟨b, 0, none⟩) (C := k.cells q1 q2 q3) (j := 153)); exact rfl; exact RH.old hC; exact CS.gM k q1 q2 q3)
      | ((with_reducible apply Qr.rd1 (ao := some ⟨b, 0, none⟩) (C := k.cells q1 q2 q3) (j := 1)); exact rfl; exact RH.old hC; exact CS.gT k q1 q2 q3)
      | ((with_reducible apply Qr.rdN (ao := some ⟨b, 0, none⟩) (C := k.cells q1 q2 q3) (j := 0) (cs := k.s.cells (.slice q1.1 k.L.length q1.2))); exact rfl; exact RH.old hC; exact CS.st k q1 q2 q3; with_reducible exact SS.len _ _)))
    | ((with_reducible apply J.givesR (is_c b (k.cells q1 q2 q3) true)); exact rfl; exact rfl; focus (exact RH.and (RH.old hC) (RH.of (CS.gM k q1 q2 q3))))
    | ((with_reducible apply J.freshR (clone_tx _ _ _ (txc k.P))); exact rfl; exact rfl; (exact RH.and (RH.old hP) (RH.of ⟨txc_length k.P, txc_ones k.P, by omega, by unfold maxLen; omega⟩)); intro q9 hq9)
    | refine J.one ?_
    | refine J.loudS ?_
    | (refine J.loudQ ?_; intro _ _)
    | (refine J.loudB ?_; intro _)
    | (with_reducible apply J.list)
    | ((with_reducible apply J.gsplit); exact rfl; exact rfl)
    | ((with_reducible first | apply J.cond | apply JC.cond); exact rfl)
    | (intro h; exfalso; (simp at h; done))
    | (intro h; (try simp only [decide_eq_true_eq, decide_eq_false_iff_not, beq_iff_eq, beq_eq_false_iff_ne, Bool.not_eq_true', Bool.not_eq_false', bne_iff_ne, bne_eq_false_iff_eq, ne_eq, ge_iff_le, gt_iff_lt] at h))
    | (with_reducible apply J.gave')
    | ((with_reducible apply J.kept'); rotate_left; (repeat (first | (with_reducible exact Outs.nil) | ((with_reducible apply Outs.cons); (repeat (first | with_reducible exact Out.here | with_reducible apply Out.there))))))
  all_goals
    first
    | ((with_reducible apply J.freshRow)
       (repeat (first | with_reducible exact Out.here | with_reducible apply Out.there))
       exact rfl
       exact rfl
       exact rfl)
    | (trace_state; fail)
theorem im_b (x : Int) (n : Nat) : 0 ≤ imin (imax x 0) (n : Int) ∧ imin (imax x 0) (n : Int) ≤ n := by
  unfold imin imax
  (repeat' split) <;> omega
/-- From a place on. -/
def fromE (E : List Ev) (fr : Int) : List Ev := E.drop (imin (imax fr 0) (E.length : Int)).toNat
theorem fromE_0 (E : List Ev) : fromE E 0 = E := by
  have h : imin (imax 0 0) (E.length : Int) = 0 := by
    unfold imin imax
    (repeat' split) <;> omega
  unfold fromE
  rw [h]
  rfl
theorem fromE_length (E : List Ev) (fr : Int) : (fromE E fr).length = E.length - (imin (imax fr 0) (E.length : Int)).toNat := List.length_drop ..
theorem rd_from {w : World} {ao : Option Addr} {E : List Ev} {fr : Int} {m : Nat} (h : Rd w ao (evc E)) (hm : (fromE E fr).length ≤ m) : Rd w (offA ao ((imin (imax fr 0) (E.length : Int)).toNat * 27) m) (evc (fromE E fr)) := by
  have hb := im_b fr E.length
  unfold offA
  split
  · rename_i h0
    have e : (fromE E fr) = [] := List.eq_nil_of_length_eq_zero (by omega)
    rw [e]
    exact Rd.nil _ _
  · cases ao with
    | none =>
      have h1 := h.1 rfl
      have h2 := evc_length E
      rw [h1] at h2
      have e : (fromE E fr) = [] := List.eq_nil_of_length_eq_zero (by rw [fromE_length]; simp at h2; omega)
      rw [e]
      exact Rd.nil _ _
    | some a =>
      refine Rd.some_ ?_
      have h1 := (h.2 a rfl).sub ((imin (imax fr 0) (E.length : Int)).toNat * 27) ((fromE E fr).length * 27)
      rw [evc_drop (by omega), List.take_of_length_le (by rw [evc_length]; exact Nat.le_refl _)] at h1
      exact h1
theorem RH.from_ {w0 : World} {own : List Nat} {H : List Asrt} {ao : Option Addr} {E : List Ev} {fr : Int} {m : Nat} (h : RH w0 own H (fun w => Rd w ao (evc E))) (hm : (fromE E fr).length ≤ m) : RH w0 own H (fun w => Rd w (offA ao ((imin (imax fr 0) (E.length : Int)).toNat * 27) m) (evc (fromE E fr))) := fun w s => rd_from (h w s) hm
theorem events_ (b : Nat) (k : CS) (fr : Int) (w : World) (hw : ChRd w b k ∧ k.E.length ≤ 1000) : CSpec Tryz.prog 29 [.pointer (some ⟨b, 0, none⟩), .int .i64 fr] [] w (Fresh 72 27 (fromE k.E fr).length (evc (fromE k.E fr)) []) := by
  obtain ⟨⟨q1, q2, q3, hC, hL, hP, hE, hcE⟩, hb⟩ := hw
  refine spec_own0 Tryz.func29 rfl Tryz.ntmps29 rfl (l0 := [(0, .pointer (some ⟨b, 0, none⟩)), (1, .int .i64 fr)]) rfl ?_
  repeat' first
    | (refine J.qv ?_; (with_reducible apply exq); focus (first
      | ((with_reducible apply Qv.sl (p := (imin (imax fr 0) (k.E.length : Int)).toNat) (r := k.E.length)); exact rfl; (exact Bd.some rfl (by have := im_b fr k.E.length; omega)); exact Bd.none; (have := im_b fr k.E.length; omega); (have := im_b fr k.E.length; omega))))
    | (refine J.qr ?_; (with_reducible apply exq); focus (first
      | ((with_reducible apply Qr.rd1 (ao := some ⟨b, 0, none⟩) (C := k.cells q1 q2 q3) (j := 151)); exact rfl; exact RH.old hC; exact CS.gP k q1 q2 q3)
      | ((with_reducible apply Qr.rd1 (ao := some ⟨b, 0, none⟩) (C := k.cells q1 q2 q3) (j := 152)); exact rfl; exact RH.old hC; exact CS.gE k q1 q2 q3)
      | ((with_reducible apply Qr.rd1 (ao := some ⟨b, 0, none⟩) (C := k.cells q1 q2 q3) (j := 153)); exact rfl; exact RH.old hC; exact CS.gM k q1 q2 q3)
      | ((with_reducible apply Qr.rd1 (ao := some ⟨b, 0, none⟩) (C := k.cells q1 q2 q3) (j := 1)); exact rfl; exact RH.old hC; exact CS.gT k q1 q2 q3)
      | ((with_reducible apply Qr.rdN (ao := some ⟨b, 0, none⟩) (C := k.cells q1 q2 q3) (j := 0) (cs := k.s.cells (.slice q1.1 k.L.length q1.2))); exact rfl; exact RH.old hC; exact CS.st k q1 q2 q3; with_reducible exact SS.len _ _)))
    | (refine J.qo ?_; refine ⟨?_, ?_⟩; focus (first
      | ((with_reducible apply Qr.rd1 (ao := some ⟨b, 0, none⟩) (C := k.cells q1 q2 q3) (j := 151)); exact rfl; exact RH.old hC; exact CS.gP k q1 q2 q3)
      | ((with_reducible apply Qr.rd1 (ao := some ⟨b, 0, none⟩) (C := k.cells q1 q2 q3) (j := 152)); exact rfl; exact RH.old hC; exact CS.gE k q1 q2 q3)
      | ((with_reducible apply Qr.rd1 (ao := some ⟨b, 0, none⟩) (C := k.cells q1 q2 q3) (j := 153)); exact rfl; exact RH.old hC; exact CS.gM k q1 q2 q3)
      | ((with_reducible apply Qr.rd1 (ao := some ⟨b, 0, none⟩) (C := k.cells q1 q2 q3) (j := 1)); exact rfl; exact RH.old hC; exact CS.gT k q1 q2 q3)
      | ((with_reducible apply Qr.rdN (ao := some ⟨b, 0, none⟩) (C := k.cells q1 q2 q3) (j := 0) (cs := k.s.cells (.slice q1.1 k.L.length q1.2))); exact rfl; exact RH.old hC; exact CS.st k q1 q2 q3; with_reducible exact SS.len _ _)))
    | ((with_reducible apply J.givesR (is_c b (k.cells q1 q2 q3) true)); exact rfl; exact rfl; focus (exact RH.and (RH.old hC) (RH.of (CS.gM k q1 q2 q3))))
    | ((with_reducible apply J.freshR (clone_ev _ _ _ (evc (fromE k.E fr)))); exact rfl; exact rfl; (exact RH.and (RH.from_ (RH.old hE) (by rw [fromE_length]; omega)) (RH.of ⟨by rw [evc_length, fromE_length], evc_ones _, by have := im_b fr k.E.length; omega, by have := im_b fr k.E.length; unfold maxLen; omega⟩)); intro q9 hq9)
    | refine J.one ?_
    | refine J.loudS ?_
    | (refine J.loudQ ?_; intro _ _)
    | (refine J.loudB ?_; intro _)
    | (with_reducible apply J.list)
    | ((with_reducible apply J.draw (id := 3) [0, 1, 3, 7, 0, 16, 0, 64, 192, 448, 960, 2032, 4095, 8191, 16383] (.p 0 (.p 1 (.p 2 (.q 3 (.p 4 (.p 5 (.p 6 (.p 7 (.p 8 (.q 9 (.p 10 (.p 11 (.p 12 (.x 13 (.p 14 .nil) .none)))))))))))))) (by kernel_rfl) ?_ (by kernel_rfl) ?_); (repeat (with_reducible first | exact PanicFree.body | exact PanicFree.np | exact PanicFree.lvS | apply PanicFree.then_ | apply PanicFree.blk)))
    | ((with_reducible apply J.pl2); exact rfl; (first | exact Gd.none | ((with_reducible apply Gd.on); exact rfl; exact rfl)); (repeat (first | (with_reducible exact PendF.nil) | ((with_reducible apply PendF.keep); exact rfl) | ((with_reducible apply PendF.gone); exact rfl))))
    | ((with_reducible apply J.pl2_off); exact rfl; ((with_reducible apply Gd.off); exact rfl; exact rfl; exact rfl); exact rfl; (repeat (first | (with_reducible exact PendF.nil) | ((with_reducible apply PendF.keep); exact rfl) | ((with_reducible apply PendF.gone); exact rfl))))
    | ((with_reducible apply J.pl2_off_none); exact rfl; ((with_reducible apply Gd.off); exact rfl; exact rfl; exact rfl); (repeat (first | (with_reducible exact PendF.nil) | ((with_reducible apply PendF.keep); exact rfl) | ((with_reducible apply PendF.gone); exact rfl))))
    | ((with_reducible first | apply J.psplit0 | apply J.psplit1 | apply J.psplit2); exact rfl; exact rfl; exact rfl)
    | (with_reducible exact J.pl_none)
    | ((with_reducible apply J.gsplit); exact rfl; exact rfl)
    | ((with_reducible first | apply J.cond | apply JC.cond); exact rfl)
    | (intro h; exfalso; (simp at h; done))
    | (intro h; (try simp only [decide_eq_true_eq, decide_eq_false_iff_not, beq_iff_eq, beq_eq_false_iff_ne, Bool.not_eq_true', Bool.not_eq_false', bne_iff_ne, bne_eq_false_iff_eq, ne_eq, ge_iff_le, gt_iff_lt] at h))
    | (with_reducible apply J.gave')
    | ((with_reducible apply J.kept'); rotate_left; (repeat (first | (with_reducible exact Outs.nil) | ((with_reducible apply Outs.cons); (repeat (first | with_reducible exact Out.here | with_reducible apply Out.there))))))
  all_goals
    first
    | ((with_reducible apply J.freshRow)
       (repeat (first | with_reducible exact Out.here | with_reducible apply Out.there))
       exact rfl
       exact (fromE_length _ _).symm
       exact rfl)
    | (trace_state; fail)
end Go.Proofs.YtljbedladifgmaaGreat.Chm
namespace Go.Proofs.YtljbedladifgmaaGreat.Chw
open Go Go.RowKit Eng
set_option linter.unusedVariables false
set_option maxRecDepth 100000
set_option linter.unusedSimpArgs false
open Wide Purse Tx Sha Ss Esc Vau Lck Do Prep Ful Doo Tri App Inn Low Gene Alv Kee Txl Cht Chn Chm Deal Mss Ots Hash Bytes
set_option maxHeartbeats 1000000
theorem rise_self {s : SS} (h : SOk s) : riseS s 0 = s := by
  have h0 := h.t0
  have h1 := h.t1
  have e : s.time + imin (imax 0 0) (imax (1099511627776 - s.time) 0) = s.time := by
    unfold imin imax
    (repeat' split) <;> omega
  cases s
  simp only [riseS, SS.mk.injEq, true_and, and_true] at e ⊢
  exact e
/-- What a ledger's sizes are at most. -/
structure CB (k : CS) : Prop where
  s : SOk k.s
  L : k.L.length ≤ 1000
  P : k.P.length ≤ 1000
  E : k.E.length ≤ 1000
  i : TsIn k.P
theorem state_ (b : Nat) (k : CS) (w : World) (hw : ChRd w b k ∧ CB k) : CSpec Tryz.prog 33 [.pointer (some ⟨b, 0, none⟩)] [] w (StV 58 k.s k.L) := by
  obtain ⟨⟨q1, q2, q3, hC, hL, hP, hE, hcE⟩, hb⟩ := hw
  refine spec_own0 Tryz.func33 rfl Tryz.ntmps33 rfl (l0 := [(0, .pointer (some ⟨b, 0, none⟩))]) rfl ?_
  repeat' first
    | ((with_reducible apply J.ret); exact rfl; exact rfl; (repeat (first | (with_reducible exact Res.nil) | ((with_reducible apply Res.tmp); exact rfl) | ((with_reducible apply Res.full); exact rfl; (focus ((repeat (first | with_reducible exact In.here | with_reducible apply In.there)); done)); (with_reducible exact SS.len _ _)) | ((with_reducible apply Res.cell1); exact rfl; (repeat (first | with_reducible exact In.here | with_reducible apply In.there)); exact rfl))); exact rfl)
    | (refine J.qr ?_; (with_reducible apply exq); focus (first
      | ((with_reducible apply Qr.rd1 (ao := some ⟨b, 0, none⟩) (C := k.cells q1 q2 q3) (j := 151)); exact rfl; exact RH.old hC; exact CS.gP k q1 q2 q3)
      | ((with_reducible apply Qr.rd1 (ao := some ⟨b, 0, none⟩) (C := k.cells q1 q2 q3) (j := 152)); exact rfl; exact RH.old hC; exact CS.gE k q1 q2 q3)
      | ((with_reducible apply Qr.rd1 (ao := some ⟨b, 0, none⟩) (C := k.cells q1 q2 q3) (j := 153)); exact rfl; exact RH.old hC; exact CS.gM k q1 q2 q3)
      | ((with_reducible apply Qr.rd1 (ao := some ⟨b, 0, none⟩) (C := k.cells q1 q2 q3) (j := 1)); exact rfl; exact RH.old hC; exact CS.gT k q1 q2 q3)
      | ((with_reducible apply Qr.rdN (ao := some ⟨b, 0, none⟩) (C := k.cells q1 q2 q3) (j := 0) (cs := k.s.cells (.slice q1.1 k.L.length q1.2))); exact rfl; exact RH.old hC; exact CS.st k q1 q2 q3; with_reducible exact SS.len _ _)))
    | ((with_reducible apply J.storeFull); exact rfl; exact rfl; (repeat (first | with_reducible exact Upd.here | with_reducible apply Upd.there)); (with_reducible exact SS.len _ _); (focus (first | (with_reducible exact SS.len _ _) | kernel_rfl)); with_reducible exact SS.ones _ _ _ _)
    | ((with_reducible apply J.givesR (is_c b (k.cells q1 q2 q3) true)); exact rfl; exact rfl; focus (exact RH.and (RH.old hC) (RH.of (CS.gM k q1 q2 q3))))
    | ((with_reducible apply J.stV (rise_ _ _ _ _ k.L)); exact rfl; exact rfl; (exact RH.and (RH.old hL) (RH.of ⟨hb.s, by have := hb.L; unfold maxLen; omega, by have := hb.L; omega⟩)); intro q9 hq9)
    | refine J.one ?_
    | refine J.loudS ?_
    | (refine J.loudQ ?_; intro _ _)
    | (refine J.loudB ?_; intro _)
    | (with_reducible apply J.list)
    | ((with_reducible apply J.gsplit); exact rfl; exact rfl)
    | ((with_reducible first | apply J.cond | apply JC.cond); exact rfl)
    | (intro h; exfalso; (simp at h; done))
    | (intro h; (try simp only [decide_eq_true_eq, decide_eq_false_iff_not, beq_iff_eq, beq_eq_false_iff_ne, Bool.not_eq_true', Bool.not_eq_false', bne_iff_ne, bne_eq_false_iff_eq, ne_eq, ge_iff_le, gt_iff_lt] at h))
    | (with_reducible apply J.gave')
    | ((with_reducible apply J.kept'); rotate_left; (repeat (first | (with_reducible exact Outs.nil) | ((with_reducible apply Outs.cons); (repeat (first | with_reducible exact Out.here | with_reducible apply Out.there))))))
  all_goals
    first
    | ((with_reducible apply J.endSt)
       · (repeat (first | (with_reducible exact Outs.nil) | ((with_reducible apply Outs.cons); (repeat (first | with_reducible exact Out.here | with_reducible apply Out.there)))))
       · rfl
       · rfl
       · rfl
       · exact rise_self hb.s)
    | (trace_state; fail)
theorem crise_ (b : Nat) (k : CS) (t : Int) (w : World) (hw : CB k) : CSpec Tryz.prog 32 [.pointer (some ⟨b, 0, none⟩), .int .i64 t] [chn b k] w (ChR (.tuple #[]) b (k.wS (riseS k.s t) k.L)) := by
  have hb := hw
  refine spec_of Tryz.func32 rfl Tryz.ntmps32 rfl (l0 := [(0, .pointer (some ⟨b, 0, none⟩)), (1, .int .i64 t)]) rfl ?_
  intro fp
  refine J.openCh .here ?_
  intro q1 q2 q3
  repeat' first
    | (refine J.qr ?_; (with_reducible apply exq); focus (first
      | ((with_reducible apply Qr.load1); exact rfl; (focus ((repeat (first | with_reducible exact In.here | with_reducible apply In.there)); done)); (with_reducible first | exact CS.gP _ _ _ _ | exact CS.gE _ _ _ _ | exact CS.gM _ _ _ _ | exact CS.gT _ _ _ _))
      | ((with_reducible apply Qr.loadN); exact rfl; (focus ((repeat (first | with_reducible exact In.here | with_reducible apply In.there)); done)); (with_reducible exact CS.st _ _ _ _); with_reducible exact SS.len _ _)))
    | ((with_reducible apply J.storeN); exact rfl; exact rfl; (repeat (first | with_reducible exact Upd.here | with_reducible apply Upd.there)); (with_reducible exact CS.sS _ _ _ _ (riseS k.s t) k.L q9); (with_reducible exact SS.len _ _); (focus (rw [CS.len]; omega)); with_reducible exact SS.ones _ _ _ _)
    | ((with_reducible apply J.givesR (is_c b _ true)); exact rfl; exact rfl; focus (exact RH.and (RH.blk0 (by (repeat (first | with_reducible exact In.here | with_reducible apply In.there)))) (RH.of (CS.gM _ _ _ _))))
    | ((with_reducible apply J.stV (rise_ _ _ _ _ k.L)); exact rfl; exact rfl; (exact RH.and (RH.row (by (repeat (first | with_reducible exact In.here | with_reducible apply In.there)))) (RH.of ⟨hb.s, by have := hb.L; unfold maxLen; omega, by have := hb.L; omega⟩)); intro q9 hq9)
    | refine J.one ?_
    | refine J.loudS ?_
    | (refine J.loudQ ?_; intro _ _)
    | (refine J.loudB ?_; intro _)
    | (with_reducible apply J.list)
    | ((with_reducible apply J.gsplit); exact rfl; exact rfl)
    | ((with_reducible first | apply J.cond | apply JC.cond); exact rfl)
    | (intro h; exfalso; (simp at h; done))
    | (intro h; (try simp only [decide_eq_true_eq, decide_eq_false_iff_not, beq_iff_eq, beq_eq_false_iff_ne, Bool.not_eq_true', Bool.not_eq_false', bne_iff_ne, bne_eq_false_iff_eq, ne_eq, ge_iff_le, gt_iff_lt] at h))
    | (with_reducible apply J.gave')
    | ((with_reducible apply J.kept'); rotate_left; (repeat (first | (with_reducible exact Outs.nil) | ((with_reducible apply Outs.cons); (repeat (first | with_reducible exact Out.here | with_reducible apply Out.there))))))
  all_goals
    first
    | (exact J.endCh (k' := k.wS (riseS k.s t) k.L) (q1 := q9) (q2 := q2) (q3 := q3) (by unfold CS.hs; (repeat (first | (with_reducible exact Outs.nil) | ((with_reducible apply Outs.cons); (repeat (first | with_reducible exact Out.here | with_reducible apply Out.there)))))) rfl rfl)
    | (trace_state; fail)
/-- May it wait; and what stands then. -/
noncomputable def subOk (k : CS) (t : Tx) : Bool := decide (chk t = 0) && (decide (k.P.length < 128) && !hasT k.P t)
noncomputable def subC (k : CS) (t : Tx) : CS := if subOk k t = true then k.wP (k.P ++ [t]) else k
theorem subOk_t {k : CS} {t : Tx} (h1 : chk t = 0) (h2 : k.P.length < 128) (h3 : hasT k.P t = false) : subOk k t = true := by
  unfold subOk
  rw [h1, h3]
  simp [h2]
theorem subOk_1 {k : CS} {t : Tx} (h1 : ¬chk t = 0) : subOk k t = false := by
  unfold subOk
  simp [h1]
theorem subOk_2 {k : CS} {t : Tx} (h2 : ¬k.P.length < 128) : subOk k t = false := by
  unfold subOk
  simp [h2]
theorem subOk_3 {k : CS} {t : Tx} (h3 : hasT k.P t = true) : subOk k t = false := by
  unfold subOk
  simp [h3]
theorem subC_t {k : CS} {t : Tx} (h : subOk k t = true) : subC k t = k.wP (k.P ++ [t]) := if_pos h
theorem subC_f {k : CS} {t : Tx} (h : subOk k t = false) : subC k t = k := if_neg (by rw [h]; decide)
theorem submit_ (b : Nat) (k : CS) (t : Tx) (w : World) (hw : CB k ∧ TX t) : CSpec Tryz.prog 26 [.pointer (some ⟨b, 0, none⟩), .agg t.cells.toArray] [chn b k] w (ChR (.bool (subOk k t)) b (subC k t)) := by
  obtain ⟨hb, ht⟩ := hw
  refine spec_of Tryz.func26 rfl Tryz.ntmps26 rfl (l0 := [(0, .pointer (some ⟨b, 0, none⟩)), (1, .agg t.cells.toArray)]) rfl ?_
  intro fp
  refine J.openCh .here ?_
  intro q1 q2 q3
  repeat' first
    | (refine J.qr ?_; (with_reducible apply exq); focus (first
      | ((with_reducible apply Qr.load1); exact rfl; (focus ((repeat (first | with_reducible exact In.here | with_reducible apply In.there)); done)); (with_reducible first | exact CS.gP _ _ _ _ | exact CS.gE _ _ _ _ | exact CS.gM _ _ _ _ | exact CS.gT _ _ _ _))
      | ((with_reducible apply Qr.loadFull); exact rfl; (focus ((repeat (first | with_reducible exact In.here | with_reducible apply In.there)); done)); (with_reducible exact tx_len _))))
    | (refine J.qo ?_; refine ⟨?_, ?_⟩; focus (first
      | ((with_reducible apply Qr.load1); exact rfl; (focus ((repeat (first | with_reducible exact In.here | with_reducible apply In.there)); done)); (with_reducible first | exact CS.gP _ _ _ _ | exact CS.gE _ _ _ _ | exact CS.gM _ _ _ _ | exact CS.gT _ _ _ _))
      | ((with_reducible apply Qr.loadFull); exact rfl; (focus ((repeat (first | with_reducible exact In.here | with_reducible apply In.there)); done)); (with_reducible exact tx_len _))))
    | ((with_reducible apply J.store1); exact rfl; exact rfl; exact rfl; (repeat (first | with_reducible exact Upd.here | with_reducible apply Upd.there)); (with_reducible exact CS.sPn _ _ _ _ (k.P ++ [t]) q9 (by simp)); (focus (rw [CS.len]; omega)))
    | ((with_reducible apply J.build1); exact rfl; exact rfl; (with_reducible first | exact tx_len _ | exact ev_len _); kernel_rfl; exact rfl; exact rfl; intro _)
    | ((with_reducible apply J.givesR (is_c b _ true)); exact rfl; exact rfl; focus (exact RH.and (RH.blk0 (by (repeat (first | with_reducible exact In.here | with_reducible apply In.there)))) (RH.of (CS.gM _ _ _ _))))
    | ((with_reducible apply J.givesP (check _)); exact rfl; exact rfl; (exact ht.i.i))
    | ((with_reducible apply J.givesR (contains_tx _ _ k.P t)); exact rfl; exact rfl; focus (exact RH.and (RH.row (by (repeat (first | with_reducible exact In.here | with_reducible apply In.there)))) (RH.of ⟨hb.i, ht, by have := hb.P; unfold maxLen; omega⟩)))
    | ((with_reducible apply J.appendR); exact rfl; exact rfl; (repeat (first | with_reducible exact Out.here | with_reducible apply Out.there)); exact rfl; exact RH.blk0 (by (repeat (first | with_reducible exact In.here | with_reducible apply In.there))); exact rfl; exact rfl; exact rfl; exact rfl; (have := hb.P; unfold maxLen; omega); (have := hb.P; omega); intro q9 hq9)
    | refine J.one ?_
    | refine J.loudS ?_
    | (refine J.loudQ ?_; intro _ _)
    | (refine J.loudB ?_; intro _)
    | (with_reducible apply J.list)
    | ((with_reducible apply J.draw (id := 1) [0, 1, 3, 7, 15, 31, 63, 127, 255, 511, 1023, 2047, 4095, 8191, 16383, 32767, 65535, 131071, 262143, 524287, 1048575, 131071, 4194303, 8388607] (.p 0 (.x 1 (.p 2 (.p 3 (.q 4 (.x 5 (.p 6 (.p 7 (.p 8 (.p 9 (.p 10 (.p 11 (.q 12 (.p 13 (.p 14 (.p 15 (.p 16 (.p 17 (.p 18 (.p 19 (.q 20 (.q 21 (.x 22 (.p 23 .nil) .none))))))))))))))))) .none)))) .none)) (by kernel_rfl) ?_ (by kernel_rfl) ?_); (repeat (with_reducible first | exact PanicFree.body | exact PanicFree.np | exact PanicFree.lvS | apply PanicFree.then_ | apply PanicFree.blk)))
    | ((with_reducible apply J.draw (id := 3) [0, 0, 2, 6, 14, 0, 32, 126, 255, 511, 1023] (.p 0 (.p 1 (.p 2 (.p 3 (.q 4 (.q 5 (.x 6 (.x 7 (.p 8 (.p 9 (.x 10 .nil .none))) .none) .none))))))) (by kernel_rfl) ?_ (by kernel_rfl) ?_); (repeat (with_reducible first | exact PanicFree.body | exact PanicFree.np | exact PanicFree.lvS | apply PanicFree.then_ | apply PanicFree.blk)))
    | ((with_reducible apply J.pl2); exact rfl; (first | exact Gd.none | ((with_reducible apply Gd.on); exact rfl; exact rfl)); (repeat (first | (with_reducible exact PendF.nil) | ((with_reducible apply PendF.keep); exact rfl) | ((with_reducible apply PendF.gone); exact rfl))))
    | ((with_reducible apply J.pl2_off); exact rfl; ((with_reducible apply Gd.off); exact rfl; exact rfl; exact rfl); exact rfl; (repeat (first | (with_reducible exact PendF.nil) | ((with_reducible apply PendF.keep); exact rfl) | ((with_reducible apply PendF.gone); exact rfl))))
    | ((with_reducible apply J.pl2_off_none); exact rfl; ((with_reducible apply Gd.off); exact rfl; exact rfl; exact rfl); (repeat (first | (with_reducible exact PendF.nil) | ((with_reducible apply PendF.keep); exact rfl) | ((with_reducible apply PendF.gone); exact rfl))))
    | ((with_reducible first | apply J.psplit0 | apply J.psplit1 | apply J.psplit2); exact rfl; exact rfl; exact rfl)
    | (with_reducible exact J.pl_none)
    | ((with_reducible apply J.gsplit); exact rfl; exact rfl)
    | ((with_reducible first | apply J.cond | apply JC.cond); exact rfl)
    | (intro h; exfalso; (simp at h; done))
    | (intro h; (try simp only [decide_eq_true_eq, decide_eq_false_iff_not, beq_iff_eq, beq_eq_false_iff_ne, Bool.not_eq_true', Bool.not_eq_false', bne_iff_ne, bne_eq_false_iff_eq, ne_eq, ge_iff_le, gt_iff_lt] at h))
    | (with_reducible apply J.gave')
    | ((with_reducible apply J.kept'); rotate_left; (repeat (first | (with_reducible exact Outs.nil) | ((with_reducible apply Outs.cons); (repeat (first | with_reducible exact Out.here | with_reducible apply Out.there))))))
  all_goals
    first
    | (have e1 := subOk_1 (k := k) (t := t) (by assumption)
       rw [subC_f e1, e1]
       (exact J.endCh (k' := k) (q1 := q1) (q2 := q2) (q3 := q3) (by unfold CS.hs; (repeat (first | (with_reducible exact Outs.nil) | ((with_reducible apply Outs.cons); (repeat (first | with_reducible exact Out.here | with_reducible apply Out.there)))))) rfl rfl))
    | (have e1 := subOk_2 (k := k) (t := t) (by omega)
       rw [subC_f e1, e1]
       (exact J.endCh (k' := k) (q1 := q1) (q2 := q2) (q3 := q3) (by unfold CS.hs; (repeat (first | (with_reducible exact Outs.nil) | ((with_reducible apply Outs.cons); (repeat (first | with_reducible exact Out.here | with_reducible apply Out.there)))))) rfl rfl))
    | (have e1 := subOk_3 (k := k) (t := t) (by assumption)
       rw [subC_f e1, e1]
       (exact J.endCh (k' := k) (q1 := q1) (q2 := q2) (q3 := q3) (by unfold CS.hs; (repeat (first | (with_reducible exact Outs.nil) | ((with_reducible apply Outs.cons); (repeat (first | with_reducible exact Out.here | with_reducible apply Out.there)))))) rfl rfl))
    | (have e1 := subOk_t (k := k) (t := t) (by assumption) (by omega) (by assumption)
       rw [subC_t e1, e1]
       refine J.reR (C' := txc (k.P ++ [t])) (n' := (k.P ++ [t]).length) (v' := .slice q9.1 (k.P ++ [t]).length q9.2) (v := .slice q9.1 (k.P.length + 1) q9.2) (E := 50) (sz := 25) (C := txc k.P ++ t.cells) (n := k.P.length + 1) (by (repeat (first | with_reducible exact Upd.here | with_reducible apply Upd.there))) (by rw [List.length_append]; rfl) (by rw [List.length_append]; rfl) (txc_add _ _) ?_
       (exact J.endCh (k' := k.wP (k.P ++ [t])) (q1 := q1) (q2 := q9) (q3 := q3) (by unfold CS.hs; (repeat (first | (with_reducible exact Outs.nil) | ((with_reducible apply Outs.cons); (repeat (first | with_reducible exact Out.here | with_reducible apply Out.there)))))) rfl rfl))
    | (trace_state; fail)
end Go.Proofs.YtljbedladifgmaaGreat.Chw
namespace Go.Proofs.YtljbedladifgmaaGreat.Chi
open Go Go.RowKit Eng
set_option linter.unusedVariables false
set_option maxRecDepth 100000
set_option linter.unusedSimpArgs false
open Wide Purse Tx Sha Ss Esc Vau Lck Do Prep Ful Doo Tri App Inn Low Gene Alv Kee Txl Cht Chn Chm Chw Deal Mss Ots Hash Bytes
set_option maxHeartbeats 1000000
/-- Where it is. -/
def atI (i : Int) (n : Nat) : Nat := ((i.tmod n + n).tmod n).toNat
theorem atI_eq (i : Int) (n : Nat) (h : 0 < n) : (i.tmod n + n).tmod n = (atI i n : Int) := by
  have h1 := Int.lt_tmod_of_pos i (b := (n : Int)) (by omega)
  unfold atI
  rw [Int.toNat_of_nonneg (Int.tmod_nonneg _ (by omega))]
theorem atI_lt (i : Int) (n : Nat) (h : 0 < n) : atI i n < n := by
  have h1 := Int.tmod_lt_of_pos (i.tmod n + n) (b := (n : Int)) (by omega)
  have h2 := atI_eq i n h
  omega
theorem tmn_b (i : Int) (n : Nat) (h : 0 < n) : -(n : Int) < i.tmod n ∧ i.tmod n < n := by
  have h1 := Int.lt_tmod_of_pos i (b := (n : Int)) (by omega)
  have h2 := Int.tmod_lt_of_pos i (b := (n : Int)) (by omega)
  omega
/-- Included, or not. -/
noncomputable def incT (k : CS) (i : Int) : Tx := k.P.getD (atI i k.P.length) tx0
noncomputable def incA (k : CS) (i : Int) : Ap := apF k.s k.L (incT k i)
noncomputable def incOk (k : CS) (i : Int) : Bool := decide (0 < k.P.length) && (incA k i).ok
noncomputable def incC (k : CS) (i : Int) : CS := if incOk k i = true then ⟨(incA k i).s, (incA k i).L, gone k.P (atI i k.P.length), k.E ++ [⟨(incA k i).s.time, (incA k i).e, incT k i⟩]⟩ else k
theorem incC_f {k : CS} {i : Int} (h : incOk k i = false) : incC k i = k := if_neg (by rw [h]; decide)
theorem incC_t {k : CS} {i : Int} (h : incOk k i = true) : incC k i = ⟨(incA k i).s, (incA k i).L, gone k.P (atI i k.P.length), k.E ++ [⟨(incA k i).s.time, (incA k i).e, incT k i⟩]⟩ := if_pos h
theorem incOk_0 {k : CS} {i : Int} (h : ¬0 < k.P.length) : incOk k i = false := by
  unfold incOk
  simp [h]
theorem incOk_ap {k : CS} {i : Int} {a : Ap} (h : 0 < k.P.length) (e : apF k.s k.L (incT k i) = a) : incOk k i = a.ok := by
  unfold incOk incA
  rw [e]
  simp [h]
theorem bf_ev {pl : List (Nat × Nat)} {z : List Value} (e : Ev) (hz : z.length = 27) (h0 : pl[0]? = some (0, 1)) (h1 : pl[1]? = some (1, 1)) (h2 : pl[2]? = some (2, 25)) : bfill (fun i => pl[i]?) z [(0, .int .i64 e.tm), (1, .int .i64 e.co), (2, .agg e.tx.cells.toArray)] = some e.cells := by
  match z, hz with
  | a0 :: a1 :: r, hz =>
    simp only [List.length_cons] at hz
    refine bf_cons (C' := .int .i64 e.tm :: a1 :: r) h0 rfl (by simp) (by simp [splice, Value.cells]) ?_
    refine bf_cons (C' := .int .i64 e.tm :: .int .i64 e.co :: r) h1 rfl (by simp) (by simp [splice, Value.cells]) ?_
    refine bf_cons (C' := e.cells) h2 rfl (by simp; omega) ?_ rfl
    show splice _ 2 e.tx.cells = _
    have hl : e.tx.cells.length = 25 := rfl
    unfold splice
    rw [hl]
    simp [Ev.cells, List.drop_eq_nil_of_le (show r.length ≤ 25 by omega)]
section
variable {P : Program} {c : Cx} {l : TL} {H : List Asrt} {Q : Exit → Act → World → Prop} {X : Act → World → Prop} {G : Act → World → Prop}
variable {ty : TypeId} {pos : String} {af : Array Edge} {d : Nat} {v : Value} {dst : Option Tmp} {mm : Nat}
theorem J.txE {f : Nat} [i : Eng.Enters P f] {xs : List Operand} {ts : Array TypeId} {vs : List Value} {T : List Tx} {H1 R : List Asrt} {p : Prop} (hS : ∀ w, p → CSpec P f vs H1 w (TxR T [])) (hd : Nat.blt d c.n = true) (hx : evs l xs = some vs) (ho : Outs H1 H R) (hp : p)
    (K : ∀ q : Option Addr × Nat, T.length ≤ q.2 → J c ((d, .slice q.1 T.length q.2) :: l) (row (.slice q.1 T.length q.2) 50 25 T.length (txc T) :: R) X) : J c l H (OW P Q ⟨some d, .call ⟨.value (.func f), xs.toArray, ts⟩, ty, pos, af, none⟩ X) :=
  J.callS hd hx ho (fun w s => hS w hp) (fun v' H3 ⟨q, hq, h1, h2⟩ => by
    cases h1; subst h2
    exact K q hq) (fun ch H3 ⟨q, _, h1, _⟩ => by cases h1) (fun H3 ⟨q, _, h1, _⟩ => by cases h1)
end
theorem include_ (b : Nat) (k : CS) (i : Int) (w : World) (hw : CB k) : CSpec Tryz.prog 27 [.pointer (some ⟨b, 0, none⟩), .int .i64 i] [chn b k] w (ChR (.bool (incOk k i)) b (incC k i)) := by
  have hb := hw
  refine spec_of Tryz.func27 rfl Tryz.ntmps27 rfl (l0 := [(0, .pointer (some ⟨b, 0, none⟩)), (1, .int .i64 i)]) rfl ?_
  intro fp
  refine J.openCh .here ?_
  intro q1 q2 q3
  repeat' first
    | (refine J.qv ?_; (with_reducible apply exq); focus (first
      | ((with_reducible apply Qv.rem); exact rfl; exact rfl; omega; exact atI_eq i k.P.length (by omega))
      | ((with_reducible apply Qv.rem); exact rfl; exact rfl; omega; exact rfl)
      | ((with_reducible apply Qv.add); exact rfl; exact rfl; exact wr64 (by have := hb.P; have h5 := tmn_b i k.P.length (by omega); omega) (by have := hb.P; have h5 := tmn_b i k.P.length (by omega); omega) rfl)
      | ((with_reducible apply Qv.add); exact rfl; exact rfl; exact wr64 (by have := hb.P; have h5 := atI_lt i k.P.length (by omega); omega) (by have := hb.P; have h5 := atI_lt i k.P.length (by omega); omega) (show (atI i k.P.length : Int) + 1 = _ from rfl))
      | ((with_reducible apply Qv.buildS (T := 72)); exact rfl; (refine bf_ev ⟨ap.s.time, ap.e, incT k i⟩ ?_ rfl rfl rfl; kernel_rfl))))
    | (refine J.qr ?_; (with_reducible apply exq); focus (first
      | ((with_reducible apply Qr.load1); exact rfl; (focus ((repeat (first | with_reducible exact In.here | with_reducible apply In.there)); done)); (with_reducible first | exact CS.gP _ _ _ _ | exact CS.gE _ _ _ _ | exact CS.gM _ _ _ _ | exact CS.gT _ _ _ _))
      | ((with_reducible apply Qr.loadN); exact rfl; (focus ((repeat (first | with_reducible exact In.here | with_reducible apply In.there)); done)); (with_reducible exact CS.st _ _ _ _); with_reducible exact SS.len _ _)
      | ((with_reducible apply Qr.loadFull); exact rfl; (focus ((repeat (first | with_reducible exact In.here | with_reducible apply In.there)); done)); (with_reducible first | exact tx_len _ | exact SS.len _ _))
      | ((with_reducible apply Qr.ldTime); exact rfl; (focus ((repeat (first | with_reducible exact In.here | with_reducible apply In.there)); done)))
      | ((with_reducible apply Qr.indexRd (k := atI i k.P.length) (C := txc k.P)); exact rfl; exact rfl; exact rfl; (have h5 := atI_lt i k.P.length (by omega); omega); exact RH.row (by (repeat (first | with_reducible exact In.here | with_reducible apply In.there))); (rw [txc_length]; have h5 := atI_lt i k.P.length (by omega); omega))
      | ((with_reducible apply Qr.rdN (C := txc k.P) (j := atI i k.P.length * 25) (cs := (incT k i).cells)); exact rfl; exact RH.row (by (repeat (first | with_reducible exact In.here | with_reducible apply In.there))); exact txc_at (atI_lt _ _ (by omega)); exact tx_len _)))
    | (refine J.qo ?_; refine ⟨?_, ?_⟩; focus (first
      | ((with_reducible apply Qr.load1); exact rfl; (focus ((repeat (first | with_reducible exact In.here | with_reducible apply In.there)); done)); (with_reducible first | exact CS.gP _ _ _ _ | exact CS.gE _ _ _ _ | exact CS.gM _ _ _ _ | exact CS.gT _ _ _ _))
      | ((with_reducible apply Qr.loadN); exact rfl; (focus ((repeat (first | with_reducible exact In.here | with_reducible apply In.there)); done)); (with_reducible exact CS.st _ _ _ _); with_reducible exact SS.len _ _)
      | ((with_reducible apply Qr.loadFull); exact rfl; (focus ((repeat (first | with_reducible exact In.here | with_reducible apply In.there)); done)); (with_reducible first | exact tx_len _ | exact SS.len _ _))
      | ((with_reducible apply Qr.ldTime); exact rfl; (focus ((repeat (first | with_reducible exact In.here | with_reducible apply In.there)); done)))
      | ((with_reducible apply Qr.indexRd (k := atI i k.P.length) (C := txc k.P)); exact rfl; exact rfl; exact rfl; (have h5 := atI_lt i k.P.length (by omega); omega); exact RH.row (by (repeat (first | with_reducible exact In.here | with_reducible apply In.there))); (rw [txc_length]; have h5 := atI_lt i k.P.length (by omega); omega))
      | ((with_reducible apply Qr.rdN (C := txc k.P) (j := atI i k.P.length * 25) (cs := (incT k i).cells)); exact rfl; exact RH.row (by (repeat (first | with_reducible exact In.here | with_reducible apply In.there))); exact txc_at (atI_lt _ _ (by omega)); exact tx_len _)))
    | ((with_reducible apply J.storeN); exact rfl; exact rfl; (repeat (first | with_reducible exact Upd.here | with_reducible apply Upd.there)); (with_reducible exact CS.sS _ _ _ _ ap.s ap.L q9); (with_reducible exact SS.len _ _); (focus (rw [CS.len]; omega)); with_reducible exact SS.ones _ _ _ _)
    | ((with_reducible apply J.store1); exact rfl; exact rfl; exact rfl; (repeat (first | with_reducible exact Upd.here | with_reducible apply Upd.there)); (with_reducible exact CS.sPn _ _ _ _ (gone k.P (atI i k.P.length)) q8 rfl); (focus (rw [CS.len]; omega)))
    | ((with_reducible apply J.store1); exact rfl; exact rfl; exact rfl; (repeat (first | with_reducible exact Upd.here | with_reducible apply Upd.there)); (with_reducible exact CS.sEn _ _ _ _ (k.E ++ [(⟨ap.s.time, ap.e, incT k i⟩ : Ev)]) q7 (by simp)); (focus (rw [CS.len]; omega)))
    | ((with_reducible apply J.storeFull); exact rfl; exact rfl; (repeat (first | with_reducible exact Upd.here | with_reducible apply Upd.there)); (with_reducible first | exact tx_len _ | exact SS.len _ _); (focus (first | (with_reducible exact SS.len _ _) | kernel_rfl)); (first | with_reducible exact SS.ones _ _ _ _ | rfl))
    | ((with_reducible apply J.build1); exact rfl; exact rfl; (with_reducible first | exact tx_len _ | exact ev_len _); kernel_rfl; exact rfl; exact rfl; intro _)
    | ((with_reducible apply J.givesR (is_c b _ true)); exact rfl; exact rfl; focus (exact RH.and (RH.blk0 (by (repeat (first | with_reducible exact In.here | with_reducible apply In.there)))) (RH.of (CS.gM _ _ _ _))))
    | ((with_reducible apply J.apG (apply_ k.s _ _ k.L (incT k i))); exact rfl; exact rfl; (exact RH.and (RH.row (by (repeat (first | with_reducible exact In.here | with_reducible apply In.there)))) (RH.of ⟨hb.s, (hb.i.get _).i, by have := hb.L; unfold maxLen; omega, by have := hb.L; omega⟩)); intro ap hap q9 hq9)
    | ((with_reducible apply J.txE (delete_tx _ _ k.P (atI i k.P.length))); exact rfl; exact rfl; (repeat (first | (with_reducible exact Outs.nil) | ((with_reducible apply Outs.cons); (repeat (first | with_reducible exact Out.here | with_reducible apply Out.there))))); exact ⟨atI_lt _ _ (by omega), by have := hb.P; unfold maxLen; omega⟩; intro q8 hq8)
    | ((with_reducible apply J.appendR); exact rfl; exact rfl; (repeat (first | with_reducible exact Out.here | with_reducible apply Out.there)); exact rfl; exact RH.blk0 (by (repeat (first | with_reducible exact In.here | with_reducible apply In.there))); exact rfl; exact rfl; exact rfl; exact rfl; (have := hb.E; unfold maxLen; omega); (have := hb.E; omega); intro q7 hq7)
    | refine J.one ?_
    | refine J.loudS ?_
    | (refine J.loudQ ?_; intro _ _)
    | (refine J.loudB ?_; intro _)
    | (with_reducible apply J.list)
    | ((with_reducible apply J.draw (id := 6) [0, 1, 3, 7, 0, 31, 63, 127, 127, 127, 0, 1279, 3583, 8191] (.p 0 (.p 1 (.p 2 (.q 3 (.q 4 (.x 5 (.p 6 (.p 7 (.p 8 (.p 9 (.x 10 (.x 11 (.p 12 (.p 13 .nil)) .none) .none))))) (.x 10 (.x 5 (.p 6 (.p 7 (.p 8 (.p 9 (.x 11 (.p 12 (.p 13 .nil)) .none))))) .none) .none))))))) (by kernel_rfl) ?_ (by kernel_rfl) ?_); (repeat (with_reducible first | exact PanicFree.body | exact PanicFree.np | exact PanicFree.lvS | apply PanicFree.then_ | apply PanicFree.blk)))
    | ((with_reducible apply J.draw (id := 11) [0, 0, 2, 6, 14, 0, 32, 0, 0, 480, 992, 2046, 4095, 8191, 16383] (.p 0 (.p 1 (.p 2 (.p 3 (.q 4 (.p 5 (.q 6 (.p 7 (.q 8 (.p 9 (.x 10 (.x 11 (.p 12 (.p 13 (.x 14 .nil .none))) .none) .none))))))))))) (by kernel_rfl) ?_ (by kernel_rfl) ?_); (repeat (with_reducible first | exact PanicFree.body | exact PanicFree.np | exact PanicFree.lvS | apply PanicFree.then_ | apply PanicFree.blk)))
    | ((with_reducible apply J.pl2); exact rfl; (first | exact Gd.none | ((with_reducible apply Gd.on); exact rfl; exact rfl)); (repeat (first | (with_reducible exact PendF.nil) | ((with_reducible apply PendF.keep); exact rfl) | ((with_reducible apply PendF.gone); exact rfl))))
    | ((with_reducible apply J.pl2_off); exact rfl; ((with_reducible apply Gd.off); exact rfl; exact rfl; exact rfl); exact rfl; (repeat (first | (with_reducible exact PendF.nil) | ((with_reducible apply PendF.keep); exact rfl) | ((with_reducible apply PendF.gone); exact rfl))))
    | ((with_reducible apply J.pl2_off_none); exact rfl; ((with_reducible apply Gd.off); exact rfl; exact rfl; exact rfl); (repeat (first | (with_reducible exact PendF.nil) | ((with_reducible apply PendF.keep); exact rfl) | ((with_reducible apply PendF.gone); exact rfl))))
    | ((with_reducible first | apply J.psplit0 | apply J.psplit1 | apply J.psplit2); exact rfl; exact rfl; exact rfl)
    | (with_reducible exact J.pl_none)
    | ((with_reducible apply J.gsplit); exact rfl; exact rfl)
    | ((with_reducible first | apply J.cond | apply JC.cond); exact rfl)
    | (intro h; exfalso; (first | (simp at h; done) | (simp at h; omega)))
    | (intro h; (try simp only [decide_eq_true_eq, decide_eq_false_iff_not, beq_iff_eq, beq_eq_false_iff_ne, Bool.not_eq_true', Bool.not_eq_false', bne_iff_ne, bne_eq_false_iff_eq, ne_eq, ge_iff_le, gt_iff_lt] at h))
    | (with_reducible apply J.gave')
    | ((with_reducible apply J.kept'); rotate_left; (repeat (first | (with_reducible exact Outs.nil) | ((with_reducible apply Outs.cons); (repeat (first | with_reducible exact Out.here | with_reducible apply Out.there))))))
  all_goals
    first
    | (have e1 := incOk_0 (k := k) (i := i) (by omega)
       rw [incC_f e1, e1]
       (exact J.endCh (k' := k) (q1 := q1) (q2 := q2) (q3 := q3) (by unfold CS.hs; (repeat (first | (with_reducible exact Outs.nil) | ((with_reducible apply Outs.cons); (repeat (first | with_reducible exact Out.here | with_reducible apply Out.there)))))) rfl rfl))
    | (have e1 := incOk_ap (i := i) (by omega) hap
       rw [show ap.ok = false from by assumption] at e1
       rw [incC_f e1, e1]
       (exact J.endCh (k' := k) (q1 := q1) (q2 := q2) (q3 := q3) (by unfold CS.hs; (repeat (first | (with_reducible exact Outs.nil) | ((with_reducible apply Outs.cons); (repeat (first | with_reducible exact Out.here | with_reducible apply Out.there)))))) rfl rfl))
    | (have e1 := incOk_ap (i := i) (by omega) hap
       rw [show ap.ok = true from by assumption] at e1
       rw [incC_t e1, e1, show incA k i = ap from hap]
       refine J.reR (C' := evc (k.E ++ [(⟨ap.s.time, ap.e, incT k i⟩ : Ev)])) (n' := (k.E ++ [(⟨ap.s.time, ap.e, incT k i⟩ : Ev)]).length) (v' := .slice q7.1 (k.E ++ [(⟨ap.s.time, ap.e, incT k i⟩ : Ev)]).length q7.2) (v := .slice q7.1 (k.E.length + 1) q7.2) (E := 72) (sz := 27) (C := evc k.E ++ Ev.cells ⟨ap.s.time, ap.e, incT k i⟩) (n := k.E.length + 1) (by (repeat (first | with_reducible exact Upd.here | with_reducible apply Upd.there))) (by rw [List.length_append]; rfl) (by rw [List.length_append]; rfl) (evc_add _ _) ?_
       (exact J.endCh (k' := ⟨ap.s, ap.L, gone k.P (atI i k.P.length), k.E ++ [(⟨ap.s.time, ap.e, incT k i⟩ : Ev)]⟩) (q1 := q9) (q2 := q8) (q3 := q7) (by unfold CS.hs; (repeat (first | (with_reducible exact Outs.nil) | ((with_reducible apply Outs.cons); (repeat (first | with_reducible exact Out.here | with_reducible apply Out.there)))))) rfl rfl))
    | (trace_state; fail)
end Go.Proofs.YtljbedladifgmaaGreat.Chi
namespace Go.Proofs.YtljbedladifgmaaGreat.Chx
open Go Go.RowKit Eng
set_option linter.unusedVariables false
set_option maxRecDepth 100000
set_option linter.unusedSimpArgs false
open Wide Purse Tx Sha Ss Esc Vau Lck Do Prep Ful Doo Tri App Inn Low Gene Alv Kee Txl Cht Chn Chm Chw Chi Deal Mss Ots Hash Bytes
set_option maxHeartbeats 1000000
theorem Qr.rdB {P : Program} {c : Cx} {l : TL} {H : List Asrt} {T n : Nat} {z : List Value} [i : Ty P T false n z] {x : Operand} {b off : Nat} {C : List Value} {v : Value} (hx : ev l x = some (.pointer (some ⟨b, off, none⟩))) (hr : RH c.w0 c.own H (fun w => Rd w (some ⟨b, 0, none⟩) C)) (hv : C[off]? = some v) : Qr P c l H (.load T x) v := Qr.rd1 (ao := some ⟨b, 0, none⟩) (C := C) (j := off) (by rw [hx, Option.getD_some, addr_add, Nat.zero_add]) hr hv
def pN (P : List Tx) (a n : Int) (i : Nat) : Bool := ((P.getD i tx0).fr == a) && ((P.getD i tx0).no == n)
def hasN (P : List Tx) (a n : Int) : Prop := ∃ i, i < P.length ∧ (P.getD i tx0).fr = a ∧ (P.getD i tx0).no = n
theorem hasN_iff {P : List Tx} {a n : Int} : 0 ≤ findI (pN P a n) P.length ↔ hasN P a n := by
  have hp : ∀ i, pN P a n i = true ↔ (P.getD i tx0).fr = a ∧ (P.getD i tx0).no = n := fun i => by simp [pN]
  rcases findI_or (p := pN P a n) (N := P.length) with ⟨h1, h2⟩ | ⟨i, h1, h2, h3, h4⟩
  · rw [h1]
    constructor
    · intro h; omega
    · rintro ⟨i, hi, h⟩
      have := (hp i).2 h
      rw [h2 i hi] at this
      cases this
  · rw [h2]
    exact ⟨fun _ => ⟨i, h1, (hp i).1 h3⟩, fun _ => by omega⟩
/-- An account's next one. -/
structure IsNext (P : List Tx) (a n0 m : Int) : Prop where
  le : n0 ≤ m
  all : ∀ j, n0 ≤ j → j < m → hasN P a j
  no : ¬hasN P a m
theorem IsNext.one {P : List Tx} {a n0 m m' : Int} (h : IsNext P a n0 m) (h' : IsNext P a n0 m') : m = m' := by
  rcases Int.lt_trichotomy m m' with h1 | h1 | h1
  · exact absurd (h'.all m h.le h1) h.no
  · exact h1
  · exact absurd (h.all m' h'.le h1) h'.no
theorem next_ex {P : List Tx} {a B : Int} (hB : ∀ n, hasN P a n → n ≤ B) : ∀ (k : Nat) (n0 : Int), (B + 1 - n0).toNat ≤ k → ∃ m, IsNext P a n0 m
  | 0, n0, h => ⟨n0, Int.le_refl _, fun j h1 h2 => by omega, fun h1 => by have := hB _ h1; omega⟩
  | k + 1, n0, h => by
    by_cases h0 : hasN P a n0
    · obtain ⟨m, h1⟩ := next_ex hB k (n0 + 1) (by have := hB _ h0; omega)
      refine ⟨m, by have := h1.le; omega, fun j h2 h3 => ?_, h1.no⟩
      rcases Int.lt_or_le n0 j with h4 | h4
      · exact h1.all j (by omega) h3
      · obtain rfl : j = n0 := by omega
        exact h0
    · exact ⟨n0, Int.le_refl _, fun j h1 h2 => by omega, h0⟩
/-- All that wait may be. -/
def Fine (P : List Tx) : Prop := ∀ t, t ∈ P → chk t = 0
theorem Fine.no {P : List Tx} (h : Fine P) {a n : Int} (hn : hasN P a n) : 0 ≤ n ∧ n ≤ 1099511627776 := by
  obtain ⟨i, hi, _, h2⟩ := hn
  rw [← h2]
  refine chk_no (h _ ?_)
  rw [List.getD_eq_getElem?_getD, List.getElem?_eq_getElem hi]
  exact List.getElem_mem hi
def NextV (k : CS) (a m : Int) : Prop := if 0 ≤ a ∧ a < 8 then IsNext k.P a (k.s.no a.toNat) m else m = 0
theorem nextV_ex {k : CS} (h : Fine k.P) (a : Int) : ∃ m, NextV k a m := by
  unfold NextV
  split
  · exact next_ex (B := 1099511627776) (fun n hn => (h.no hn).2) _ _ (Nat.le_refl _)
  · exact ⟨0, rfl⟩
theorem nx1 (t : Tx) (B1 B2 : Nat) (a n : Int) (w : World) (hw : Rd w (some ⟨B1, 0, none⟩) [.int .i64 a] ∧ Rd w (some ⟨B2, 0, none⟩) [.int .i64 n]) : CSpec Tryz.prog 76 [.agg t.cells.toArray, .pointer (some ⟨B1, 0, none⟩), .pointer (some ⟨B2, 0, none⟩)] [] w (Gives (.bool ((t.fr == a) && (t.no == n)))) := by
  obtain ⟨h1, h2⟩ := hw
  refine spec_own0 Tryz.func76 rfl Tryz.ntmps76 rfl (l0 := [(0, .agg t.cells.toArray), (1, .pointer (some ⟨B1, 0, none⟩)), (2, .pointer (some ⟨B2, 0, none⟩))]) rfl ?_
  repeat' first
    | (refine J.qr ?_; (with_reducible apply exq); focus (first
      | ((with_reducible apply Qr.rd1 (ao := some ⟨B1, 0, none⟩) (C := [.int .i64 a]) (j := 0)); exact rfl; exact RH.old h1; exact rfl)
      | ((with_reducible apply Qr.rd1 (ao := some ⟨B2, 0, none⟩) (C := [.int .i64 n]) (j := 0)); exact rfl; exact RH.old h2; exact rfl)))
    | refine J.one ?_
    | refine J.loudS ?_
    | (refine J.loudQ ?_; intro _ _)
    | (refine J.loudB ?_; intro _)
    | (with_reducible apply J.list)
    | ((with_reducible apply J.gsplit); exact rfl; exact rfl)
    | ((with_reducible first | apply J.cond | apply JC.cond); exact rfl)
    | (intro h; exfalso; fail)
    | (intro h; (try simp only [decide_eq_true_eq, decide_eq_false_iff_not, beq_iff_eq, beq_eq_false_iff_ne, Bool.not_eq_true', Bool.not_eq_false', bne_iff_ne, bne_eq_false_iff_eq, ne_eq, ge_iff_le, gt_iff_lt] at h))
    | (with_reducible apply J.gave')
    | ((with_reducible apply J.kept'); rotate_left; (repeat (first | (with_reducible exact Outs.nil) | ((with_reducible apply Outs.cons); (repeat (first | with_reducible exact Out.here | with_reducible apply Out.there))))))
  all_goals
    first
    | rfl
    | (simp_all [retv]; done)
    | (trace_state; fail)
theorem next_ (b : Nat) (k : CS) (a m : Int) (w : World) (hw : ChRd w b k ∧ CB k ∧ Fine k.P ∧ (∀ j, I64 (k.s.no j)) ∧ NextV k a m) : CSpec Tryz.prog 37 [.pointer (some ⟨b, 0, none⟩), .int .i64 a] [] w (Gives (.int .i64 m)) := by
  obtain ⟨⟨q1, q2, q3, hC, hL, hP, hE, hcE⟩, hb, hf, hI, hv⟩ := hw
  have hN : ∀ n, hasN k.P a n → 0 ≤ n ∧ n ≤ 1099511627776 := fun n h => hf.no h
  refine spec_own0 Tryz.func37 rfl Tryz.ntmps37 rfl (l0 := [(0, .pointer (some ⟨b, 0, none⟩)), (1, .int .i64 a)]) rfl ?_
  repeat' first
    | (refine J.qv ?_; (with_reducible apply exq); focus (first
      | ((with_reducible apply Qv.idxNo); exact rfl; exact rfl; (constructor <;> omega))))
    | (refine J.qr ?_; (with_reducible apply exq); focus (first
      | ((with_reducible apply Qr.rdB (C := k.cells q1 q2 q3)); exact rfl; exact RH.old hC; exact CS.gN k q1 q2 q3 (by omega))
      | ((with_reducible apply Qr.rd1 (ao := some ⟨b, 0, none⟩) (C := k.cells q1 q2 q3) (j := 151)); exact rfl; exact RH.old hC; exact CS.gP k q1 q2 q3)
      | ((with_reducible apply Qr.rd1 (ao := some ⟨b, 0, none⟩) (C := k.cells q1 q2 q3) (j := 152)); exact rfl; exact RH.old hC; exact CS.gE k q1 q2 q3)
      | ((with_reducible apply Qr.rd1 (ao := some ⟨b, 0, none⟩) (C := k.cells q1 q2 q3) (j := 153)); exact rfl; exact RH.old hC; exact CS.gM k q1 q2 q3)
      | ((with_reducible apply Qr.rd1 (ao := some ⟨b, 0, none⟩) (C := k.cells q1 q2 q3) (j := 1)); exact rfl; exact RH.old hC; exact CS.gT k q1 q2 q3)
      | ((with_reducible apply Qr.rdN (ao := some ⟨b, 0, none⟩) (C := k.cells q1 q2 q3) (j := 0) (cs := k.s.cells (.slice q1.1 k.L.length q1.2))); exact rfl; exact RH.old hC; exact CS.st k q1 q2 q3; with_reducible exact SS.len _ _)))
    | (refine J.qo ?_; refine ⟨?_, ?_⟩; focus (first
      | ((with_reducible apply Qr.rdB (C := k.cells q1 q2 q3)); exact rfl; exact RH.old hC; exact CS.gN k q1 q2 q3 (by omega))
      | ((with_reducible apply Qr.rd1 (ao := some ⟨b, 0, none⟩) (C := k.cells q1 q2 q3) (j := 151)); exact rfl; exact RH.old hC; exact CS.gP k q1 q2 q3)
      | ((with_reducible apply Qr.rd1 (ao := some ⟨b, 0, none⟩) (C := k.cells q1 q2 q3) (j := 152)); exact rfl; exact RH.old hC; exact CS.gE k q1 q2 q3)
      | ((with_reducible apply Qr.rd1 (ao := some ⟨b, 0, none⟩) (C := k.cells q1 q2 q3) (j := 153)); exact rfl; exact RH.old hC; exact CS.gM k q1 q2 q3)
      | ((with_reducible apply Qr.rd1 (ao := some ⟨b, 0, none⟩) (C := k.cells q1 q2 q3) (j := 1)); exact rfl; exact RH.old hC; exact CS.gT k q1 q2 q3)
      | ((with_reducible apply Qr.rdN (ao := some ⟨b, 0, none⟩) (C := k.cells q1 q2 q3) (j := 0) (cs := k.s.cells (.slice q1.1 k.L.length q1.2))); exact rfl; exact RH.old hC; exact CS.st k q1 q2 q3; with_reducible exact SS.len _ _)))
    | ((with_reducible apply J.givesR (is_c b (k.cells q1 q2 q3) true)); exact rfl; exact rfl; focus (exact RH.and (RH.old hC) (RH.of (CS.gM k q1 q2 q3))))
    | refine J.one ?_
    | refine J.loudS ?_
    | (refine J.loudQ ?_; intro _ _)
    | (refine J.loudB ?_; intro _)
    | (with_reducible apply J.list)
    | ((with_reducible apply J.draw (id := 3) [0, 0, 1, 5, 13, 31, 63, 0, 255] (.p 0 (.q 1 (.p 2 (.p 3 (.p 4 (.p 5 (.q 6 (.x 7 (.x 8 .nil .none) .none)))))))) (by kernel_rfl) ?_ (by kernel_rfl) ?_); (repeat (with_reducible first | exact PanicFree.body | exact PanicFree.np | exact PanicFree.lvS | apply PanicFree.then_ | apply PanicFree.blk)))
    | ((with_reducible apply J.pl2); exact rfl; (first | exact Gd.none | ((with_reducible apply Gd.on); exact rfl; exact rfl)); (repeat (first | (with_reducible exact PendF.nil) | ((with_reducible apply PendF.keep); exact rfl) | ((with_reducible apply PendF.gone); exact rfl))))
    | ((with_reducible apply J.pl2_off); exact rfl; ((with_reducible apply Gd.off); exact rfl; exact rfl; exact rfl); exact rfl; (repeat (first | (with_reducible exact PendF.nil) | ((with_reducible apply PendF.keep); exact rfl) | ((with_reducible apply PendF.gone); exact rfl))))
    | ((with_reducible apply J.pl2_off_none); exact rfl; ((with_reducible apply Gd.off); exact rfl; exact rfl; exact rfl); (repeat (first | (with_reducible exact PendF.nil) | ((with_reducible apply PendF.keep); exact rfl) | ((with_reducible apply PendF.gone); exact rfl))))
    | ((with_reducible first | apply J.psplit0 | apply J.psplit1 | apply J.psplit2); exact rfl; exact rfl; exact rfl)
    | (with_reducible exact J.pl_none)
    | ((with_reducible apply J.gsplit); exact rfl; exact rfl)
    | ((with_reducible first | apply J.cond | apply JC.cond); exact rfl)
    | (intro h; exfalso; (first | (simp at h; done) | (simp at h; omega) | omega))
    | (intro h; (try simp only [decide_eq_true_eq, decide_eq_false_iff_not, beq_iff_eq, beq_eq_false_iff_ne, Bool.not_eq_true', Bool.not_eq_false', bne_iff_ne, bne_eq_false_iff_eq, ne_eq, ge_iff_le, gt_iff_lt] at h))
    | (with_reducible apply J.gave')
    | ((with_reducible apply J.kept'); rotate_left; (repeat (first | (with_reducible exact Outs.nil) | ((with_reducible apply Outs.cons); (repeat (first | with_reducible exact Out.here | with_reducible apply Out.there))))))
  all_goals try (have h1 : m = 0 := by unfold NextV at hv; rwa [if_neg (by omega)] at hv
                 simp only [retv, h1]; done)
  have hx : IsNext k.P a (k.s.no a.toNat) m := by unfold NextV at hv; rwa [if_pos ⟨by omega, by omega⟩] at hv
  rename_i b3 _ b5
  apply J.loopI (σ := Int) (I := fun n => k.s.no a.toNat ≤ n ∧ n ≤ m) (L := fun n => [(0, .pointer (some ⟨b, 0, none⟩)), (3, .pointer (some ⟨b3, 0, none⟩)), (5, .pointer (some ⟨b5, 0, none⟩))]) (HH := fun n => [blk b3 [.int .i64 a] 3, blk b5 [.int .i64 n] 3]) (m := fun n => (m - n).toNat) (s0 := (k.s.no a.toNat))
  · ((try dsimp only); (exact ⟨Int.le_refl _, hx.le⟩))
  · ((try dsimp only); repeat (first | exact sub.nil _ | (refine sub.consE rfl ?_ ?_; (first | with_reducible rfl | (fail) | rfl))))
  · ((try dsimp only); (repeat (first | (with_reducible exact Outs.nil) | ((with_reducible apply Outs.cons); (repeat (first | with_reducible exact Out.here | with_reducible apply Out.there))))))
  rintro n ⟨hn0, hnm⟩
  try dsimp only at *
  repeat' first
    | (refine J.qv ?_; (with_reducible apply exq); focus (first
      | ((with_reducible apply Qv.add); exact rfl; exact rfl; exact wr64 (by have := hN n (hasN_iff.1 (by assumption)); omega) (by have := hN n (hasN_iff.1 (by assumption)); omega) rfl)))
    | (refine J.qr ?_; (with_reducible apply exq); focus (first
      | ((with_reducible apply Qr.rd1 (ao := some ⟨b, 0, none⟩) (C := k.cells q1 q2 q3) (j := 151)); exact rfl; exact RH.old hC; exact CS.gP k q1 q2 q3)
      | ((with_reducible apply Qr.rd1 (ao := some ⟨b, 0, none⟩) (C := k.cells q1 q2 q3) (j := 152)); exact rfl; exact RH.old hC; exact CS.gE k q1 q2 q3)
      | ((with_reducible apply Qr.rd1 (ao := some ⟨b, 0, none⟩) (C := k.cells q1 q2 q3) (j := 153)); exact rfl; exact RH.old hC; exact CS.gM k q1 q2 q3)
      | ((with_reducible apply Qr.rd1 (ao := some ⟨b, 0, none⟩) (C := k.cells q1 q2 q3) (j := 1)); exact rfl; exact RH.old hC; exact CS.gT k q1 q2 q3)
      | ((with_reducible apply Qr.rdN (ao := some ⟨b, 0, none⟩) (C := k.cells q1 q2 q3) (j := 0) (cs := k.s.cells (.slice q1.1 k.L.length q1.2))); exact rfl; exact RH.old hC; exact CS.st k q1 q2 q3; with_reducible exact SS.len _ _)
      | ((with_reducible apply Qr.load1); exact rfl; (focus ((repeat (first | with_reducible exact In.here | with_reducible apply In.there)); done)); exact rfl)))
    | (refine J.qo ?_; refine ⟨?_, ?_⟩; focus (first
      | ((with_reducible apply Qr.rd1 (ao := some ⟨b, 0, none⟩) (C := k.cells q1 q2 q3) (j := 151)); exact rfl; exact RH.old hC; exact CS.gP k q1 q2 q3)
      | ((with_reducible apply Qr.rd1 (ao := some ⟨b, 0, none⟩) (C := k.cells q1 q2 q3) (j := 152)); exact rfl; exact RH.old hC; exact CS.gE k q1 q2 q3)
      | ((with_reducible apply Qr.rd1 (ao := some ⟨b, 0, none⟩) (C := k.cells q1 q2 q3) (j := 153)); exact rfl; exact RH.old hC; exact CS.gM k q1 q2 q3)
      | ((with_reducible apply Qr.rd1 (ao := some ⟨b, 0, none⟩) (C := k.cells q1 q2 q3) (j := 1)); exact rfl; exact RH.old hC; exact CS.gT k q1 q2 q3)
      | ((with_reducible apply Qr.rdN (ao := some ⟨b, 0, none⟩) (C := k.cells q1 q2 q3) (j := 0) (cs := k.s.cells (.slice q1.1 k.L.length q1.2))); exact rfl; exact RH.old hC; exact CS.st k q1 q2 q3; with_reducible exact SS.len _ _)
      | ((with_reducible apply Qr.load1); exact rfl; (focus ((repeat (first | with_reducible exact In.here | with_reducible apply In.there)); done)); exact rfl)))
    | ((with_reducible apply J.givesR (some_tx q2.1 q2.2 k.P 76 [.pointer (some ⟨b3, 0, none⟩), .pointer (some ⟨b5, 0, none⟩)] (pN k.P a n))); exact rfl; exact rfl; focus (exact fun w2 s2 => ⟨RH.old hP w2 s2, by have := hb.P; unfold maxLen; omega, fun i hi w3 f3 => nx1 _ _ _ _ _ w3 ⟨Rd.kept (RH.blk0 (by (repeat (first | with_reducible exact In.here | with_reducible apply In.there))) w2 s2) f3, Rd.kept (RH.blk0 (by (repeat (first | with_reducible exact In.here | with_reducible apply In.there))) w2 s2) f3⟩⟩))
    | refine J.one ?_
    | refine J.loudS ?_
    | (refine J.loudQ ?_; intro _ _)
    | (refine J.loudB ?_; intro _)
    | (with_reducible apply J.list)
    | ((with_reducible apply J.draw (id := 3) [0, 0, 1, 5, 13, 31, 63, 0, 255] (.p 0 (.q 1 (.p 2 (.p 3 (.p 4 (.p 5 (.q 6 (.x 7 (.x 8 .nil .none) .none)))))))) (by kernel_rfl) ?_ (by kernel_rfl) ?_); (repeat (with_reducible first | exact PanicFree.body | exact PanicFree.np | exact PanicFree.lvS | apply PanicFree.then_ | apply PanicFree.blk)))
    | ((with_reducible apply J.pl2); exact rfl; (first | exact Gd.none | ((with_reducible apply Gd.on); exact rfl; exact rfl)); (repeat (first | (with_reducible exact PendF.nil) | ((with_reducible apply PendF.keep); exact rfl) | ((with_reducible apply PendF.gone); exact rfl))))
    | ((with_reducible apply J.pl2_off); exact rfl; ((with_reducible apply Gd.off); exact rfl; exact rfl; exact rfl); exact rfl; (repeat (first | (with_reducible exact PendF.nil) | ((with_reducible apply PendF.keep); exact rfl) | ((with_reducible apply PendF.gone); exact rfl))))
    | ((with_reducible apply J.pl2_off_none); exact rfl; ((with_reducible apply Gd.off); exact rfl; exact rfl; exact rfl); (repeat (first | (with_reducible exact PendF.nil) | ((with_reducible apply PendF.keep); exact rfl) | ((with_reducible apply PendF.gone); exact rfl))))
    | ((with_reducible first | apply J.psplit0 | apply J.psplit1 | apply J.psplit2); exact rfl; exact rfl; exact rfl)
    | (with_reducible exact J.pl_none)
    | ((with_reducible apply J.gsplit); exact rfl; exact rfl)
    | ((with_reducible first | apply J.cond | apply JC.cond); exact rfl)
    | (intro h; exfalso; fail)
    | (intro h; (try simp only [decide_eq_true_eq, decide_eq_false_iff_not, beq_iff_eq, beq_eq_false_iff_ne, Bool.not_eq_true', Bool.not_eq_false', bne_iff_ne, bne_eq_false_iff_eq, ne_eq, ge_iff_le, gt_iff_lt] at h))
    | (with_reducible apply J.gave')
    | ((with_reducible apply J.kept'); rotate_left; (repeat (first | (with_reducible exact Outs.nil) | ((with_reducible apply Outs.cons); (repeat (first | with_reducible exact Out.here | with_reducible apply Out.there))))))
  all_goals first
    | (have h1 := hasN_iff.1 (by assumption : 0 ≤ findI (pN k.P a n) k.P.length)
       have h2 : n ≠ m := fun e => hx.no (e ▸ h1)
       (apply J.againI (s := n) (s' := (n + 1)); (focus (omega)); (focus ((try dsimp only); (exact ⟨by omega, by omega⟩))); (focus (((try dsimp only); repeat (first | exact sub.nil _ | (refine sub.consE rfl ?_ ?_; (first | with_reducible rfl | ((focus (congr 1; omega))) | rfl)))))); ((try dsimp only); (repeat (first | (with_reducible exact Outs.nil) | ((with_reducible apply Outs.cons); (repeat (first | with_reducible exact Out.here | with_reducible apply Out.there))))))))
    | (have h1 : ¬ hasN k.P a n := fun h2 => (by assumption : ¬ 0 ≤ findI (pN k.P a n) k.P.length) (hasN_iff.2 h2)
       have h2 : n = m := by
         rcases Int.lt_or_le n m with h3 | h3
         · exact absurd (hx.all n hn0 h3) h1
         · omega
       simp only [retv, h2]; done)
    | (trace_state; fail)
/-- Is it this one, of this kind, of this transfer? -/
noncomputable def pW (P : List Tx) (a kd : Int) (key : List UInt8) (i : Nat) : Bool := ((P.getD i tx0).fr == a) && (((P.getD i tx0).ki == kd) && decide (keyT (P.getD i tx0) = key))
noncomputable def waitsB (P : List Tx) (a kd : Int) (key : List UInt8) : Bool := !decide (key = []) && decide (0 ≤ findI (pW P a kd key) P.length)
theorem wt1 (t : Tx) (B1 B2 B3 : Nat) (a kd : Int) (key : List UInt8) (w : World) (hw : Rd w (some ⟨B1, 0, none⟩) [.int .i64 a] ∧ Rd w (some ⟨B2, 0, none⟩) [.int .i64 kd] ∧ Rd w (some ⟨B3, 0, none⟩) [str key]) : CSpec Tryz.prog 73 [.agg t.cells.toArray, .pointer (some ⟨B1, 0, none⟩), .pointer (some ⟨B2, 0, none⟩), .pointer (some ⟨B3, 0, none⟩)] [] w (Gives (.bool ((t.fr == a) && ((t.ki == kd) && decide (keyT t = key))))) := by
  obtain ⟨h1, h2, h3⟩ := hw
  refine spec_own0 Tryz.func73 rfl Tryz.ntmps73 rfl (l0 := [(0, .agg t.cells.toArray), (1, .pointer (some ⟨B1, 0, none⟩)), (2, .pointer (some ⟨B2, 0, none⟩)), (3, .pointer (some ⟨B3, 0, none⟩))]) rfl ?_
  repeat' first
    | (refine J.qr ?_; (with_reducible apply exq); focus (first
      | ((with_reducible apply Qr.rd1 (ao := some ⟨B1, 0, none⟩) (C := [.int .i64 a]) (j := 0)); exact rfl; exact RH.old h1; exact rfl)
      | ((with_reducible apply Qr.rd1 (ao := some ⟨B2, 0, none⟩) (C := [.int .i64 kd]) (j := 0)); exact rfl; exact RH.old h2; exact rfl)
      | ((with_reducible apply Qr.rd1 (ao := some ⟨B3, 0, none⟩) (C := [str key]) (j := 0)); exact rfl; exact RH.old h3; exact rfl)))
    | (refine J.qo ?_; refine ⟨?_, ?_⟩; focus (first
      | ((with_reducible apply Qr.rd1 (ao := some ⟨B1, 0, none⟩) (C := [.int .i64 a]) (j := 0)); exact rfl; exact RH.old h1; exact rfl)
      | ((with_reducible apply Qr.rd1 (ao := some ⟨B2, 0, none⟩) (C := [.int .i64 kd]) (j := 0)); exact rfl; exact RH.old h2; exact rfl)
      | ((with_reducible apply Qr.rd1 (ao := some ⟨B3, 0, none⟩) (C := [str key]) (j := 0)); exact rfl; exact RH.old h3; exact rfl)))
    | ((with_reducible apply J.givesR (key_ t.us t.rt t.ro t.se t.re t.to t.id)); exact rfl; exact rfl; focus (exact RH.true_))
    | refine J.one ?_
    | refine J.loudS ?_
    | (refine J.loudQ ?_; intro _ _)
    | (refine J.loudB ?_; intro _)
    | (with_reducible apply J.list)
    | ((with_reducible apply J.draw (id := 1) [0, 1, 0, 7, 15, 31, 63, 31, 255, 511, 1023, 2047, 4095, 8191, 2047, 32767, 65535, 131071] (.p 0 (.q 1 (.q 2 (.p 3 (.p 4 (.p 5 (.q 6 (.q 7 (.p 8 (.p 9 (.p 10 (.p 11 (.q 12 (.q 14 (.x 13 (.p 15 (.p 16 (.p 17 .nil))) .none))))))))))))))) (by kernel_rfl) ?_ (by kernel_rfl) ?_); (repeat (with_reducible first | exact PanicFree.body | exact PanicFree.np | exact PanicFree.lvS | apply PanicFree.then_ | apply PanicFree.blk)))
    | ((with_reducible apply J.pl2); exact rfl; (first | exact Gd.none | ((with_reducible apply Gd.on); exact rfl; exact rfl)); (repeat (first | (with_reducible exact PendF.nil) | ((with_reducible apply PendF.keep); exact rfl) | ((with_reducible apply PendF.gone); exact rfl))))
    | ((with_reducible apply J.pl2_off); exact rfl; ((with_reducible apply Gd.off); exact rfl; exact rfl; exact rfl); exact rfl; (repeat (first | (with_reducible exact PendF.nil) | ((with_reducible apply PendF.keep); exact rfl) | ((with_reducible apply PendF.gone); exact rfl))))
    | ((with_reducible apply J.pl2_off_none); exact rfl; ((with_reducible apply Gd.off); exact rfl; exact rfl; exact rfl); (repeat (first | (with_reducible exact PendF.nil) | ((with_reducible apply PendF.keep); exact rfl) | ((with_reducible apply PendF.gone); exact rfl))))
    | ((with_reducible first | apply J.psplit0 | apply J.psplit1 | apply J.psplit2); exact rfl; exact rfl; exact rfl)
    | (with_reducible exact J.pl_none)
    | ((with_reducible apply J.gsplit); exact rfl; exact rfl)
    | ((with_reducible first | apply J.cond | apply JC.cond); exact rfl)
    | (intro h; exfalso; fail)
    | (intro h; (try simp only [decide_eq_true_eq, decide_eq_false_iff_not, beq_iff_eq, beq_eq_false_iff_ne, Bool.not_eq_true', Bool.not_eq_false', bne_iff_ne, bne_eq_false_iff_eq, ne_eq, ge_iff_le, gt_iff_lt] at h))
    | (with_reducible apply J.gave')
    | ((with_reducible apply J.kept'); rotate_left; (repeat (first | (with_reducible exact Outs.nil) | ((with_reducible apply Outs.cons); (repeat (first | with_reducible exact Out.here | with_reducible apply Out.there))))))
  all_goals
    first
    | rfl
    | (simp only [retv]; rw [show (t.fr == a) = true by simpa, show (t.ki == kd) = true by simpa]; rfl)
    | (simp_all [retv, keyT]; done)
    | (trace_state; fail)
theorem waits_ (b : Nat) (k : CS) (a kd : Int) (key : List UInt8) (w : World) (hw : ChRd w b k ∧ CB k) : CSpec Tryz.prog 30 [.pointer (some ⟨b, 0, none⟩), .int .i64 a, str key, .int .i64 kd] [] w (Gives (.bool (waitsB k.P a kd key))) := by
  obtain ⟨⟨q1, q2, q3, hC, hL, hP, hE, hcE⟩, hb⟩ := hw
  refine spec_own0 Tryz.func30 rfl Tryz.ntmps30 rfl (l0 := [(0, .pointer (some ⟨b, 0, none⟩)), (1, .int .i64 a), (2, str key), (3, .int .i64 kd)]) rfl ?_
  repeat' first
    | (refine J.qr ?_; (with_reducible apply exq); focus (first
      | ((with_reducible apply Qr.rd1 (ao := some ⟨b, 0, none⟩) (C := k.cells q1 q2 q3) (j := 151)); exact rfl; exact RH.old hC; exact CS.gP k q1 q2 q3)
      | ((with_reducible apply Qr.rd1 (ao := some ⟨b, 0, none⟩) (C := k.cells q1 q2 q3) (j := 152)); exact rfl; exact RH.old hC; exact CS.gE k q1 q2 q3)
      | ((with_reducible apply Qr.rd1 (ao := some ⟨b, 0, none⟩) (C := k.cells q1 q2 q3) (j := 153)); exact rfl; exact RH.old hC; exact CS.gM k q1 q2 q3)
      | ((with_reducible apply Qr.rd1 (ao := some ⟨b, 0, none⟩) (C := k.cells q1 q2 q3) (j := 1)); exact rfl; exact RH.old hC; exact CS.gT k q1 q2 q3)
      | ((with_reducible apply Qr.rdN (ao := some ⟨b, 0, none⟩) (C := k.cells q1 q2 q3) (j := 0) (cs := k.s.cells (.slice q1.1 k.L.length q1.2))); exact rfl; exact RH.old hC; exact CS.st k q1 q2 q3; with_reducible exact SS.len _ _)
      | ((with_reducible apply Qr.load1); exact rfl; (focus ((repeat (first | with_reducible exact In.here | with_reducible apply In.there)); done)); exact rfl)))
    | ((with_reducible apply J.givesR (is_c b (k.cells q1 q2 q3) true)); exact rfl; exact rfl; focus (exact RH.and (RH.old hC) (RH.of (CS.gM k q1 q2 q3))))
    | ((with_reducible apply J.givesR (some_tx q2.1 q2.2 k.P 73 [.pointer (some ⟨_, 0, none⟩), .pointer (some ⟨_, 0, none⟩), .pointer (some ⟨_, 0, none⟩)] (pW k.P a kd key))); exact rfl; exact rfl; focus (exact fun w2 s2 => ⟨RH.old hP w2 s2, by have := hb.P; unfold maxLen; omega, fun i hi w3 f3 => wt1 _ _ _ _ _ _ _ w3 ⟨Rd.kept (RH.blk0 (by (repeat (first | with_reducible exact In.here | with_reducible apply In.there))) w2 s2) f3, Rd.kept (RH.blk0 (by (repeat (first | with_reducible exact In.here | with_reducible apply In.there))) w2 s2) f3, Rd.kept (RH.blk0 (by (repeat (first | with_reducible exact In.here | with_reducible apply In.there))) w2 s2) f3⟩⟩))
    | refine J.one ?_
    | refine J.loudS ?_
    | (refine J.loudQ ?_; intro _ _)
    | (refine J.loudB ?_; intro _)
    | (with_reducible apply J.list)
    | ((with_reducible apply J.gsplit); exact rfl; exact rfl)
    | ((with_reducible first | apply J.cond | apply JC.cond); exact rfl)
    | (intro h; exfalso; (simp at h; done))
    | (intro h; (try simp only [decide_eq_true_eq, decide_eq_false_iff_not, beq_iff_eq, beq_eq_false_iff_ne, Bool.not_eq_true', Bool.not_eq_false', bne_iff_ne, bne_eq_false_iff_eq, ne_eq, ge_iff_le, gt_iff_lt] at h))
    | (with_reducible apply J.gave')
    | ((with_reducible apply J.kept'); rotate_left; (repeat (first | (with_reducible exact Outs.nil) | ((with_reducible apply Outs.cons); (repeat (first | with_reducible exact Out.here | with_reducible apply Out.there))))))
  all_goals
    first
    | (simp_all [retv, waitsB]; done)
    | (trace_state; fail)
end Go.Proofs.YtljbedladifgmaaGreat.Chx
namespace Go.Proofs.YtljbedladifgmaaGreat.Civ
open Go Go.RowKit Eng
set_option linter.unusedVariables false
set_option maxRecDepth 100000
set_option linter.unusedSimpArgs false
open Wide Purse Tx Sha Ss Esc Vau Lck Do Prep Ful Doo Tri App Inn Low Gene Alv Kee Txl Cht Chn Chm Chw Chi Chx Deal Mss Ots Hash Bytes
set_option maxHeartbeats 1000000
/-- What no step turns. -/
theorem doX_keep {α : Type} (F : SS → α) (h : ∀ (s : SS) (pu va he : Nat → Int), F ⟨s.side, s.time, pu, va, s.no, he, s.bu⟩ = F s) (s : SS) (L : List Lk) (t : Tx) : F (doX s L t).2 = F s := by
  have key : ∀ {x : Int × SS} {f : SS → Int × SS} {n : α}, F x.2 = n → (∀ s : SS, F s = n → F (f s).2 = n) → F (bindE x f).2 = n := fun {x f n} h1 h2 => by
    unfold bindE
    split
    · exact h2 _ h1
    · exact h1
  have tp : ∀ (s : SS) (a i x : Int), F (takeP s a i x).2 = F s := fun s a i x => h s _ s.va s.he
  have pp : ∀ (s : SS) (a i x : Int), F (putP s a i x).2 = F s := fun s a i x => h s _ s.va s.he
  have pv : ∀ (s : SS) (a i x : Int), F (putV s a i x).2 = F s := fun s a i x => h s s.pu _ s.he
  have vv : ∀ (s : SS) (a i x : Int), F (vaultV s a i x).2 = F s := fun s a i x => h s s.pu _ s.he
  have hh : ∀ (s : SS) (a x : Int), F (holdH s a x).2 = F s := fun s a x => h s s.pu s.va _
  have ff : ∀ (s : SS) (a x : Int), F (freeH s a x).2 = F s := fun s a x => h s s.pu s.va _
  have mm : ∀ (s : SS) (a b i x : Int), F (moveP s a b i x).2 = F s := fun s a b i x => h s _ s.va s.he
  unfold doX
  split
  · exact mm _ _ _ _ _
  split
  · exact key (tp _ _ _ _) fun s h => key ((pv _ _ _ _).trans h) fun s h => (hh _ _ _).trans h
  split
  · unfold drawX
    split
    · exact key (vv _ _ _ _) fun s h => key ((pp _ _ _ _).trans h) fun s h => (ff _ _ _).trans h
    · rfl
  split
  · unfold prepX
    repeat' split
    all_goals first
      | rfl
      | exact vv _ _ _ _
      | exact key (tp _ _ _ _) fun s h => (hh _ _ _).trans h
  split
  · unfold fulX
    repeat' split
    all_goals first
      | rfl
      | exact pv _ _ _ _
      | exact key (pp _ _ _ _) fun s h => key ((pp _ _ _ _).trans h) fun s h => (ff _ _ _).trans h
  split
  · unfold canX
    repeat' split
    all_goals first
      | rfl
      | exact pv _ _ _ _
      | exact key (pp _ _ _ _) fun s h => (ff _ _ _).trans h
  · rfl
/-- An error's number. -/
def Eb (x : Int) : Prop := 0 ≤ x ∧ x ≤ 100
theorem eb_n {x : Int} (h0 : 0 ≤ x) (h1 : x ≤ 100) : Eb x := ⟨h0, h1⟩
theorem eb_if {p : Prop} [Decidable p] {a b : Int} (h1 : Eb a) (h2 : Eb b) : Eb (if p then a else b) := by split <;> assumption
theorem eb_bind {x : Int × SS} {f : SS → Int × SS} (h1 : Eb x.1) (h2 : ∀ s, Eb (f s).1) : Eb (bindE x f).1 := by
  unfold bindE
  split
  · exact h2 _
  · exact h1
theorem eb_tk (ns : Nat → Int) (a i x : Int) : Eb (tkR ns a i x).2 := by
  unfold tkR
  split
  · split
    · exact eb_n (x := 0) (by decide) (by decide)
    · exact eb_n (x := 30) (by decide) (by decide)
  · exact eb_n (x := 4) (by decide) (by decide)
theorem eb_gv (ns : Nat → Int) (a i x : Int) : Eb (gvR ns a i x).2 := by
  unfold gvR
  split
  · split
    · exact eb_n (x := 0) (by decide) (by decide)
    · exact eb_n (x := 38) (by decide) (by decide)
  · exact eb_n (x := 4) (by decide) (by decide)
theorem eb_mv (ns : Nat → Int) (a b i x : Int) : Eb (mvR ns a b i x).2 := by
  unfold mvR
  split
  · split
    · exact eb_gv _ _ _ _
    · exact eb_gv _ _ _ _
  · exact eb_tk _ _ _ _
theorem eb_vv (s : SS) (a i x : Int) : Eb (vaultV s a i x).1 := eb_if (eb_n (by decide) (by decide)) (eb_n (by decide) (by decide))
theorem eb_hh (s : SS) (a x : Int) : Eb (holdH s a x).1 := eb_if (eb_n (by decide) (by decide)) (eb_n (by decide) (by decide))
theorem eb_ff (s : SS) (a x : Int) : Eb (freeH s a x).1 := eb_if (eb_n (by decide) (by decide)) (eb_n (by decide) (by decide))
theorem eb_lock (L : List Lk) (t : Tx) : Eb (lockE L t) := by
  unfold lockE
  repeat' split
  all_goals exact eb_n (by decide) (by decide)
theorem eb_do (s : SS) (L : List Lk) (t : Tx) : Eb (doX s L t).1 := by
  unfold doX
  split
  · exact eb_mv _ _ _ _ _
  split
  · exact eb_bind (eb_tk _ _ _ _) fun s => eb_bind (eb_gv _ _ _ _) fun s => eb_hh _ _ _
  split
  · unfold drawX
    split
    · exact eb_bind (eb_vv _ _ _ _) fun s => eb_bind (eb_gv _ _ _ _) fun s => eb_ff _ _ _
    · exact eb_n (x := 37) (by decide) (by decide)
  split
  · unfold prepX
    repeat' split
    all_goals first
      | exact eb_n (x := 32) (by decide) (by decide)
      | exact eb_n (x := 34) (by decide) (by decide)
      | exact eb_n (x := 37) (by decide) (by decide)
      | exact eb_vv _ _ _ _
      | exact eb_bind (eb_tk _ _ _ _) fun s => eb_hh _ _ _
  split
  · unfold fulX
    repeat' split
    all_goals first
      | exact eb_n (x := 34) (by decide) (by decide)
      | exact eb_n (x := 35) (by decide) (by decide)
      | exact eb_n (x := 36) (by decide) (by decide)
      | exact eb_lock _ _
      | exact eb_gv _ _ _ _
      | exact eb_bind (eb_gv _ _ _ _) fun s => eb_bind (eb_gv _ _ _ _) fun s => eb_ff _ _ _
  split
  · unfold canX
    repeat' split
    all_goals first
      | exact eb_n (x := 35) (by decide) (by decide)
      | exact eb_n (x := 37) (by decide) (by decide)
      | exact eb_lock _ _
      | exact eb_gv _ _ _ _
      | exact eb_bind (eb_gv _ _ _ _) fun s => eb_ff _ _ _
  · exact eb_n (x := 0) (by decide) (by decide)
theorem eb_chk (t : Tx) : Eb (chk t) := by
  unfold chk rtE invE sndE
  repeat' split
  all_goals exact eb_n (by decide) (by decide)
theorem keyT_len (t : Tx) : (keyT t).length ≤ 32 := by
  unfold keyT
  rw [keyF_length]
  split <;> omega
theorem digT_len (t : Tx) : (digT t).length ≤ 32 := by
  unfold digT digF
  split
  · rw [sha_length]; omega
  · simp
theorem stL_in {L : List Lk} (h : LIn L) {i : Nat} {x : Int} (hx : I64 x) : LIn (stL L i x) := fun k hk => by
  unfold stL at hk
  rcases List.mem_or_eq_of_mem_set hk with h1 | rfl
  · exact h k h1
  · exact ⟨(h.get i).key, (h.get i).dig, hx⟩
theorem doL_in {L : List Lk} (h : LIn L) (t : Tx) : LIn (doL L t) := by
  unfold doL endL
  split
  · intro k hk
    unfold prepL at hk
    rcases List.mem_append.1 hk with h1 | h1
    · exact h k h1
    · obtain rfl := List.mem_singleton.1 h1
      have h2 := keyT_len t
      have h3 := digT_len t
      exact ⟨by unfold maxLen; show (keyT t).length ≤ _; omega, by unfold maxLen; show (digT t).length ≤ _; omega, i64_of (x := 1) (by decide) (by decide)⟩
  split
  · exact stL_in h (i64_of (by decide) (by decide))
  split
  · exact stL_in h (i64_of (by decide) (by decide))
  · exact h
theorem sok_in {s s' : SS} (h : SIn s) (h' : SOk s') (e1 : s'.side = s.side) (hn : ∀ j, I64 (s'.no j)) : SIn s' := ⟨e1 ▸ h.side, by have := h'.t0; have := h'.t1; exact i64_of (by omega) (by omega), h'.pu, h'.va, hn, h'.he, h'.bu⟩
/-- What comes of a transaction is again such. -/
theorem ap_in {s : SS} {L : List Lk} {t : Tx} {ap : Ap} (e : apF s L t = ap) (hi : SIn s) (hs : SOk s) (hL : LIn L) (ht : TIn t) : SIn ap.s ∧ LIn ap.L ∧ Eb ap.e := by
  have hk := ap_keeps e hs ht
  subst e
  unfold apF at hk ⊢
  split
  · rename_i h1
    split
    · rename_i h2
      split
      · rename_i h3
        have h5 : ∀ j, I64 ((s1F s t).no j) := fun j => by
          show I64 (upd _ _ _ j)
          unfold upd
          split
          · have := chk_no h1
            have h6 : t.no = s.no t.fr.toNat := h2
            show I64 (s.no t.fr.toNat + 1)
            exact i64_of (by omega) (by omega)
          · exact hi.no j
        split
        · rename_i h4
          rw [if_pos h1, if_pos h2, if_pos h3, if_pos h4] at hk
          refine ⟨sok_in hi hk.1 (doX_keep SS.side (fun _ _ _ _ => rfl) _ _ _) ?_, doL_in hL t, eb_n (x := 0) (by decide) (by decide)⟩
          intro j
          have e9 := congrFun (doX_keep SS.no (fun _ _ _ _ => rfl) (s1F s t) L t) j
          show I64 ((doX (s1F s t) L t).2.no j)
          rw [e9]
          exact h5 j
        · rename_i h4
          rw [if_pos h1, if_pos h2, if_pos h3, if_neg h4] at hk
          exact ⟨sok_in hi hk.1 rfl h5, hL, eb_do _ _ _⟩
      · exact ⟨hi, hL, eb_n (x := 21) (by decide) (by decide)⟩
    · exact ⟨hi, hL, eb_n (x := 20) (by decide) (by decide)⟩
  · exact ⟨hi, hL, eb_chk t⟩
theorem ap_time {s : SS} {L : List Lk} {t : Tx} {ap : Ap} (e : apF s L t = ap) : ap.s.time = s.time := by
  subst e
  unfold apF
  repeat' split
  all_goals first
    | rfl
    | exact doX_keep SS.time (fun _ _ _ _ => rfl) _ _ _
/-- Events that may be. -/
structure EvIn (e : Ev) : Prop where
  tm : I64 e.tm
  co : I64 e.co
  tx : TX e.tx
def EsIn (E : List Ev) : Prop := ∀ e, e ∈ E → EvIn e
theorem ev0_in : EvIn ev0 := ⟨i64_0, i64_0, tx0_in⟩
theorem EsIn.get {E : List Ev} (h : EsIn E) (i : Nat) : EvIn (E.getD i ev0) := by
  rcases Nat.lt_or_ge i E.length with h1 | h1
  · rw [List.getD_eq_getElem?_getD, List.getElem?_eq_getElem h1]
    exact h _ (List.getElem_mem h1)
  · rw [List.getD_eq_getElem?_getD, List.getElem?_eq_none h1]
    exact ev0_in
def evsh : List Sh := .int .i64 :: .int .i64 :: txsh
theorem ev_reads {W : World} {e : Ev} (h : EvIn e) : Sh.ReadsL W evsh e.cells := ⟨_, _, rfl, ⟨_, rfl, h.tm⟩, _, _, rfl, ⟨_, rfl, h.co⟩, tx_reads h.tx⟩
theorem eq_ev {e : Ev} (h : EvIn e) (w : World) : (Op.equal 72 (.agg e.cells.toArray) (.agg e.cells.toArray)).run Tryz.prog w = .ok true w := eq_flat (k := 5) (L := evsh) (by kernel_rfl) (by kernel_rfl) (by kernel_rfl) (by kernel_rfl) (by kernel_rfl) (by decide) (ev_reads (W := w) h) (ev_reads h) (by simp) w
theorem Qv.neEv {mm T' : Nat} {x y : Operand} {l : TL} {e : Ev} (hx : ev l x = some (.agg e.cells.toArray)) (hy : ev l y = some (.agg e.cells.toArray)) (h : EvIn e) : Qv Tryz.prog mm l (.binOp .neq 72 x y T') (.bool false) := Qv.neqA (r := true) hx hy (by kernel_rfl) (fun w => eq_ev h w)
/-- What is so of a ledger behind n steps. -/
structure CI (k : CS) (n : Nat) : Prop where
  i : SIn k.s
  s : SOk k.s
  l : LIn k.L
  L : k.L.length ≤ n
  p : TsIn k.P
  f : Fine k.P
  P : k.P.length ≤ n
  e : EsIn k.E
  E : k.E.length ≤ n
theorem CI.cb {k : CS} {n : Nat} (h : CI k n) (hn : n ≤ 1000) : CB k := ⟨h.s, by have := h.L; omega, by have := h.P; omega, by have := h.E; omega, h.p⟩
theorem gen_in (side time : Int) : SIn (genS side time) := ⟨by
  show I64 (imin (imax side 0) 1)
  unfold imin imax
  (repeat' split) <;> exact i64_of (by omega) (by omega), by
  have h := gen_ok side time
  have := h.t0
  have := h.t1
  exact i64_of (by omega) (by omega), (gen_ok side time).pu, (gen_ok side time).va, fun _ => i64_0, (gen_ok side time).he, (gen_ok side time).bu⟩
theorem CI.new (side time : Int) : CI (CS.new side time) 0 := ⟨gen_in side time, gen_ok side time, fun k hk => (by cases hk), Nat.le_refl _, fun k hk => (by cases hk), fun k hk => (by cases hk), Nat.le_refl _, fun k hk => (by cases hk), Nat.le_refl _⟩
theorem CI.more {k : CS} {n m : Nat} (h : CI k n) (hm : n ≤ m) : CI k m := ⟨h.i, h.s, h.l, by have := h.L; omega, h.p, h.f, by have := h.P; omega, h.e, by have := h.E; omega⟩
theorem CI.sub {k : CS} {n : Nat} (h : CI k n) {t : Tx} (ht : TX t) : CI (subC k t) (n + 1) := by
  unfold subC
  split
  · rename_i h1
    have hc : chk t = 0 := by
      unfold subOk at h1
      simp only [Bool.and_eq_true, decide_eq_true_eq] at h1
      exact h1.1
    refine ⟨h.i, h.s, h.l, by have := h.L; show k.L.length ≤ _; omega, fun u hu => ?_, fun u hu => ?_, by have := h.P; show (k.P ++ [t]).length ≤ _; simp; omega, h.e, by have := h.E; show k.E.length ≤ _; omega⟩
    · rcases List.mem_append.1 hu with h2 | h2
      · exact h.p u h2
      · exact (List.mem_singleton.1 h2) ▸ ht
    · rcases List.mem_append.1 hu with h2 | h2
      · exact h.f u h2
      · exact (List.mem_singleton.1 h2) ▸ hc
  · exact h.more (Nat.le_succ _)
theorem CI.tx {k : CS} {n : Nat} (h : CI k n) (i : Int) : TX (incT k i) := h.p.get _
theorem gone_fine {P : List Tx} {i : Nat} (h : Fine P) : Fine (gone P i) := fun t ht => by
  rcases List.mem_append.1 ht with h1 | h1
  · exact h t (List.mem_of_mem_take h1)
  · exact h t (List.mem_of_mem_drop h1)
theorem gone_le (P : List Tx) (i : Nat) : (gone P i).length ≤ P.length := by
  unfold gone
  rw [List.length_append, List.length_take, List.length_drop]
  omega
theorem CI.inc {k : CS} {n : Nat} (h : CI k n) (i : Int) : CI (incC k i) (n + 1) := by
  unfold incC
  split
  · have h1 := ap_in (ap := incA k i) rfl h.i h.s h.l (h.tx i).i
    have h2 := ap_keeps (ap := incA k i) rfl h.s (h.tx i).i
    refine ⟨h1.1, h2.1, h1.2.1, by have := h.L; have := h2.2.2.2; show (incA k i).L.length ≤ _; omega, gone_in h.p, gone_fine h.f, by have := h.P; have := gone_le k.P (atI i k.P.length); show (gone _ _).length ≤ _; omega, fun e he => ?_, by have := h.E; show (k.E ++ _).length ≤ _; simp; omega⟩
    rcases List.mem_append.1 he with h3 | h3
    · exact h.e e h3
    · obtain rfl := List.mem_singleton.1 h3
      exact ⟨h1.1.time, i64_of (by have := h1.2.2.1; show _ ≤ (incA k i).e; omega) (by have := h1.2.2.2; show (incA k i).e ≤ _; omega), h.tx i⟩
  · exact h.more (Nat.le_succ _)
theorem CI.ris {k : CS} {n : Nat} (h : CI k n) (t : Int) : CI (k.wS (riseS k.s t) k.L) n := ⟨sok_in h.i (riseS_ok h.s) rfl h.i.no, riseS_ok h.s, h.l, h.L, h.p, h.f, h.P, h.e, h.E⟩
end Go.Proofs.YtljbedladifgmaaGreat.Civ
