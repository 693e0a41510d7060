/-
  What is kept, whatever is done. No conditions.
-/
import Derived.Test.YtljbedladifgmaaGreatQAlv
namespace Go.Proofs.YtljbedladifgmaaGreat.Kee
open Go Go.RowKit Eng
set_option linter.unusedVariables false
set_option maxRecDepth 100000
set_option linter.unusedSimpArgs false
open Wide Purse Tx Sha Ss Esc Vau Lck Do Prep Ful Doo Tri App Inn Low Gene Alv Deal Mss Ots Hash Bytes
set_option maxHeartbeats 1000000
theorem psum_upd {ms : Nat → Int} {a : Nat} {v : Int} : ∀ n, psum (upd ms a v) n = psum ms n + (if a < n then v - ms a else 0)
  | 0 => by simp [psum]
  | n + 1 => by
    simp only [psum, psum_upd n, upd]
    split <;> split <;> split <;> (first | omega | (subst_vars; omega))
theorem psum_row {ns : Nat → Int} {i k a : Nat} {v : Int} (hk : k < 2) (ha : a < 2) (hi : i < 8) : psum (fun j => upd ns (2 * i + k) v (2 * j + a)) 8 = psum (fun j => ns (2 * j + a)) 8 + (if k = a then v - ns (2 * i + k) else 0) := by
  by_cases e : k = a
  · subst e
    rw [if_pos rfl]
    have h : (fun j => upd ns (2 * i + k) v (2 * j + k)) = upd (fun j => ns (2 * j + k)) i v := by
      funext j
      unfold upd
      split <;> split <;> (first | rfl | omega)
    rw [h, psum_upd, if_pos hi]
  · rw [if_neg e]
    have h : (fun j => upd ns (2 * i + k) v (2 * j + a)) = fun j => ns (2 * j + a) := by
      funext j
      unfold upd
      rw [if_neg (by omega)]
    rw [h]
    omega
/-- All purses, and what is held. -/
def sm (s : SS) (a : Nat) : Int := psum (fun j => s.pu (2 * j + a)) 8 + s.he a
theorem tk_ok {ns : Nat → Int} {i a x : Int} (h : (tkR ns i a x).2 = 0) : (0 ≤ i ∧ i < 8 ∧ 0 ≤ a ∧ a < 2) ∧ x ≤ ns (2 * i.toNat + a.toNat) ∧ (tkR ns i a x).1 = upd ns (2 * i.toNat + a.toNat) (ns (2 * i.toNat + a.toNat) - x) := by
  unfold tkR at h ⊢
  split at h
  · rename_i h1
    split at h
    · rename_i h2
      rw [if_pos h1, if_pos h2]
      exact ⟨inA_iff.1 h1, h2, rfl⟩
    · exact absurd h (by show ¬ (30 : Int) = 0; decide)
  · exact absurd h (by show ¬ (4 : Int) = 0; decide)
theorem gv_ok {ns : Nat → Int} {i a x : Int} (h : (gvR ns i a x).2 = 0) : (0 ≤ i ∧ i < 8 ∧ 0 ≤ a ∧ a < 2) ∧ (gvR ns i a x).1 = upd ns (2 * i.toNat + a.toNat) (ns (2 * i.toNat + a.toNat) + x) := by
  unfold gvR at h ⊢
  split at h
  · rename_i h1
    split at h
    · rename_i h2
      rw [if_pos h1, if_pos h2]
      exact ⟨inA_iff.1 h1, rfl⟩
    · exact absurd h (by show ¬ (38 : Int) = 0; decide)
  · exact absurd h (by show ¬ (4 : Int) = 0; decide)
def wh (x : Int) (k : Int) (a : Nat) : Int := if k.toNat = a then x else 0
theorem takeP_sm {s : SS} {i k x : Int} (h : (takeP s i k x).1 = 0) {a : Nat} (ha : a < 2) : sm (takeP s i k x).2 a = sm s a - wh x k a := by
  obtain ⟨h1, h2, h3⟩ := tk_ok (show (tkR s.pu i k x).2 = 0 from h)
  show psum (fun j => (tkR s.pu i k x).1 (2 * j + a)) 8 + s.he a = _
  rw [h3, psum_row (by omega) ha (by omega)]
  unfold sm wh
  split <;> omega
theorem putP_sm {s : SS} {i k x : Int} (h : (putP s i k x).1 = 0) {a : Nat} (ha : a < 2) : sm (putP s i k x).2 a = sm s a + wh x k a := by
  obtain ⟨h1, h3⟩ := gv_ok (show (gvR s.pu i k x).2 = 0 from h)
  show psum (fun j => (gvR s.pu i k x).1 (2 * j + a)) 8 + s.he a = _
  rw [h3, psum_row (by omega) ha (by omega)]
  unfold sm wh
  split <;> omega
theorem holdH_sm {s : SS} {k x : Int} (h : (holdH s k x).1 = 0) {a : Nat} : sm (holdH s k x).2 a = sm s a + wh x k a := by
  have h1 : s.he k.toNat + x < 115792089237316195423570985008687907853269984665640564039457584007913129639936 := by
    have h2 : (if s.he k.toNat + x < 115792089237316195423570985008687907853269984665640564039457584007913129639936 then (0 : Int) else 38) = 0 := h
    split at h2
    · assumption
    · omega
  show psum (fun j => s.pu (2 * j + a)) 8 + upd s.he k.toNat (wadd (s.he k.toNat) x) a = _
  rw [wadd_lt h1]
  unfold sm wh upd
  split <;> split <;> (first | omega | (subst_vars; omega))
theorem freeH_sm {s : SS} {k x : Int} (h : (freeH s k x).1 = 0) {a : Nat} : sm (freeH s k x).2 a = sm s a - wh x k a := by
  have h1 : x ≤ s.he k.toNat := by
    have h2 : (if x ≤ s.he k.toNat then (0 : Int) else 38) = 0 := h
    split at h2
    · assumption
    · omega
  show psum (fun j => s.pu (2 * j + a)) 8 + upd s.he k.toNat (wsub (s.he k.toNat) x) a = _
  rw [wsub_le h1]
  unfold sm wh upd
  split <;> split <;> (first | omega | (subst_vars; omega))
theorem putV_sm {s : SS} {i k x : Int} {a : Nat} : sm (putV s i k x).2 a = sm s a := rfl
theorem vaultV_sm {s : SS} {i k x : Int} {a : Nat} : sm (vaultV s i k x).2 a = sm s a := rfl
theorem bind_0 {x : Int × SS} {f : SS → Int × SS} (h : (bindE x f).1 = 0) : x.1 = 0 ∧ (f x.2).1 = 0 ∧ (bindE x f).2 = (f x.2).2 := by
  unfold bindE at h ⊢
  split at h
  · rename_i h1
    rw [if_pos h1]
    exact ⟨h1, h, rfl⟩
  · rename_i h1
    exact absurd h h1
theorem moveP_sm {s : SS} {i j k x : Int} (h : (moveP s i j k x).1 = 0) {a : Nat} (ha : a < 2) : sm (moveP s i j k x).2 a = sm s a := by
  have h0 : (mvR s.pu i j k x).2 = 0 := h
  show psum (fun q => (mvR s.pu i j k x).1 (2 * q + a)) 8 + s.he a = sm s a
  unfold mvR at h0 ⊢
  split at h0
  · rename_i h1
    split at h0
    · rename_i h2
      rw [if_pos h1, if_pos h2]
      obtain ⟨g1, g2, g3⟩ := tk_ok h1
      obtain ⟨g4, g5⟩ := gv_ok h2
      rw [g5, g3, psum_row (by omega) ha (by omega), psum_row (by omega) ha (by omega)]
      unfold sm
      split <;> omega
    · rename_i h2
      exact absurd h0 h2
  · rename_i h1
    exact absurd h0 h1
theorem doX_sm {s : SS} {L : List Lk} {t : Tx} (h : (doX s L t).1 = 0) {a : Nat} (ha : a < 2) : sm (doX s L t).2 a = sm s a := by
  unfold doX at h ⊢
  split at h
  · rename_i h1
    rw [if_pos h1]
    exact moveP_sm h ha
  rename_i h1
  rw [if_neg h1]
  split at h
  · rename_i h2
    rw [if_pos h2]
    unfold storeX at h ⊢
    obtain ⟨e1, e2, e3⟩ := bind_0 h
    obtain ⟨e4, e5, e6⟩ := bind_0 e2
    rw [e3, e6, holdH_sm e5, putV_sm, takeP_sm e1 ha]
    omega
  rename_i h2
  rw [if_neg h2]
  split at h
  · rename_i h3
    rw [if_pos h3]
    unfold drawX at h ⊢
    split at h
    · rename_i h4
      rw [if_pos h4]
      obtain ⟨e1, e2, e3⟩ := bind_0 h
      obtain ⟨e4, e5, e6⟩ := bind_0 e2
      rw [e3, e6, freeH_sm e5, putP_sm e4 ha, vaultV_sm]
      omega
    · exact absurd h (by show ¬ (37 : Int) = 0; decide)
  rename_i h3
  rw [if_neg h3]
  split at h
  · rename_i h4
    rw [if_pos h4]
    unfold prepX at h ⊢
    split at h
    · rename_i h5
      rw [if_pos h5]
      split at h
      · rename_i h6
        rw [if_pos h6]
        split at h
        · rename_i h7
          rw [if_pos h7]
          split at h
          · rename_i h8
            rw [if_pos h8]
            exact vaultV_sm
          · exact absurd h (by show ¬ (37 : Int) = 0; decide)
        · rename_i h7
          rw [if_neg h7]
          split at h
          · rename_i h8
            rw [if_pos h8]
            obtain ⟨e1, e2, e3⟩ := bind_0 h
            rw [e3, holdH_sm e2, takeP_sm e1 ha]
            omega
          · exact absurd h (by show ¬ (37 : Int) = 0; decide)
      · exact absurd h (by show ¬ (34 : Int) = 0; decide)
    · exact absurd h (by show ¬ (32 : Int) = 0; decide)
  rename_i h4
  rw [if_neg h4]
  split at h
  · rename_i h5
    rw [if_pos h5]
    unfold fulX at h ⊢
    split at h
    · rename_i h6
      rw [if_pos h6]
      split at h
      · rename_i h7
        rw [if_pos h7]
        split at h
        · rename_i h8
          rw [if_pos h8]
          split at h
          · rename_i h9
            rw [if_pos h9]
            split at h
            · rename_i h10
              rw [if_pos h10]
              obtain ⟨e1, e2, e3⟩ := bind_0 h
              obtain ⟨e4, e5, e6⟩ := bind_0 e2
              rw [e3, e6, freeH_sm e5, putP_sm e4 ha, putP_sm e1 ha, wsub_le h8]
              unfold wh
              split <;> omega
            · rename_i h10
              rw [if_neg h10]
              exact putV_sm
          · exact absurd h (by show ¬ (35 : Int) = 0; decide)
        · exact absurd h (by show ¬ (36 : Int) = 0; decide)
      · exact absurd h (by show ¬ (34 : Int) = 0; decide)
    · rename_i h6
      exact absurd h h6
  rename_i h5
  rw [if_neg h5]
  split at h
  · rename_i h6
    rw [if_pos h6]
    unfold canX at h ⊢
    split at h
    · rename_i h7
      rw [if_pos h7]
      split at h
      · rename_i h8
        rw [if_pos h8]
        split at h
        · rename_i h9
          rw [if_pos h9]
          exact putV_sm
        · exact absurd h (by show ¬ (35 : Int) = 0; decide)
      · rename_i h8
        rw [if_neg h8]
        split at h
        · rename_i h9
          rw [if_pos h9]
          obtain ⟨e1, e2, e3⟩ := bind_0 h
          rw [e3, freeH_sm e2, putP_sm e1 ha]
          omega
        · exact absurd h (by show ¬ (37 : Int) = 0; decide)
    · rename_i h7
      exact absurd h h7
  · rename_i h6
    rw [if_neg h6]
/-- What is done keeps states such as may be. -/
theorem bindE_ok2 {x : Int × SS} {f : SS → Int × SS} (h1 : SOk x.2) (h2 : ∀ s : SS, SOk s → SOk (f s).2) : SOk (bindE x f).2 := by
  unfold bindE
  split
  · exact h2 _ h1
  · exact h1
theorem doX_ok {s : SS} {L : List Lk} {t : Tx} (hs : SOk s) (ht : TOk t) : SOk (doX s L t).2 := by
  unfold doX
  split
  · exact moveP_ok hs ht.am
  split
  · exact bindE_ok2 (takeP_ok hs ht.am) fun s h => bindE_ok2 (putV_ok h ht.am) fun s h => holdH_ok h ht.am
  split
  · unfold drawX
    split
    · exact bindE_ok2 (vaultV_ok hs ht.am) fun s h => bindE_ok2 (putP_ok h ht.am) fun s h => freeH_ok h ht.am
    · exact hs
  split
  · unfold prepX
    repeat' split
    all_goals first
      | exact hs
      | exact vaultV_ok hs ht.va
      | exact bindE_ok2 (takeP_ok hs ht.va) fun s h => holdH_ok h ht.va
  split
  · unfold fulX
    repeat' split
    all_goals first
      | exact hs
      | exact putV_ok hs ht.va
      | exact bindE_ok2 (putP_ok hs (wsub_any _ _ ht.va ht.fee)) fun s h => bindE_ok2 (putP_ok h ht.fee) fun s h => freeH_ok h ht.va
  split
  · unfold canX
    repeat' split
    all_goals first
      | exact hs
      | exact putV_ok hs ht.va
      | exact bindE_ok2 (putP_ok hs ht.va) fun s h => freeH_ok h ht.va
  · exact hs
theorem doL_len (L : List Lk) (t : Tx) : L.length ≤ (doL L t).length ∧ (doL L t).length ≤ L.length + 1 := by
  unfold doL endL
  (repeat' split) <;> simp [prepL, stL_length]
/-- All there is, of an asset. -/
def tot (s : SS) (a : Nat) : Int := sm s a + (if a = 0 then s.bu else 0)
theorem doX_bu (s : SS) (L : List Lk) (t : Tx) : (doX s L t).2.bu = s.bu := by
  have key : ∀ {x : Int × SS} {f : SS → Int × SS} {n : Int}, x.2.bu = n → (∀ s : SS, s.bu = n → (f s).2.bu = n) → (bindE x f).2.bu = n := fun {x f n} h1 h2 => by
    unfold bindE
    split
    · exact h2 _ h1
    · exact h1
  unfold doX
  split
  · rfl
  split
  · exact key rfl fun s h => key h fun s h => h
  split
  · unfold drawX
    split
    · exact key rfl fun s h => key h fun s h => h
    · rfl
  split
  · unfold prepX
    repeat' split
    all_goals first
      | rfl
      | exact key rfl fun s h => h
  split
  · unfold fulX
    repeat' split
    all_goals first
      | rfl
      | exact key rfl fun s h => key h fun s h => h
  split
  · unfold canX
    repeat' split
    all_goals first
      | rfl
      | exact key rfl fun s h => h
  · rfl
theorem s1F_tot {s : SS} {t : Tx} (h : (tkR s.pu t.fr 0 1).2 = 0) (hb : s.bu + 1 < 115792089237316195423570985008687907853269984665640564039457584007913129639936) {a : Nat} (ha : a < 2) : tot (s1F s t) a = tot s a := by
  obtain ⟨h1, h2, h3⟩ := tk_ok h
  show psum (fun j => (tkR s.pu t.fr 0 1).1 (2 * j + a)) 8 + s.he a + (if a = 0 then wadd s.bu 1 else 0) = _
  rw [h3, psum_row (by omega) ha (by omega), wadd_lt hb]
  unfold tot sm
  rcases Nat.lt_or_ge 0 a with h4 | h4
  · rw [if_neg (by show ¬ (0 : Int).toNat = a; simp; omega), if_neg (by omega), if_neg (by omega)]
    omega
  · obtain rfl : a = 0 := by omega
    rw [if_pos rfl, if_pos rfl, if_pos (show (0 : Int).toNat = 0 from rfl)]
    omega
/-- A transaction keeps all there is. -/
theorem ap_keeps {s : SS} {L : List Lk} {t : Tx} {ap : Ap} (e : apF s L t = ap) (hs : SOk s) (ht : TIn t) : SOk ap.s ∧ (∀ a, a < 2 → tot ap.s a = tot s a) ∧ L.length ≤ ap.L.length ∧ ap.L.length ≤ L.length + 1 := by
  subst e
  unfold apF
  split
  · rename_i h1
    have hk := tok_of ht h1
    split
    · split
      · rename_i h3
        have h5 : SOk (s1F s t) := s1F_ok hs
        split
        · rename_i h4
          refine ⟨doX_ok h5 hk, fun a ha => ?_, (doL_len L t).1, (doL_len L t).2⟩
          show tot (doX (s1F s t) L t).2 a = _
          rw [← s1F_tot h3.1 h3.2 ha]
          unfold tot
          rw [doX_sm h4 ha, doX_bu]
        · exact ⟨h5, fun a ha => s1F_tot h3.1 h3.2 ha, Nat.le_refl _, Nat.le_succ _⟩
      · exact ⟨hs, fun a _ => rfl, Nat.le_refl _, Nat.le_succ _⟩
    · exact ⟨hs, fun a _ => rfl, Nat.le_refl _, Nat.le_succ _⟩
  · exact ⟨hs, fun a _ => rfl, Nat.le_refl _, Nat.le_succ _⟩
end Go.Proofs.YtljbedladifgmaaGreat.Kee
