/-
  What is so of a state, whatever is applied. No conditions.
-/
import Derived.Test.YtljbedladifgmaaGreatQKee
import Derived.Test.YtljbedladifgmaaGreatQTxl
import Derived.Test.YtljbedladifgmaaGreatQSam
namespace Go.Proofs.YtljbedladifgmaaGreat.Cix
open Go Go.RowKit Eng
set_option linter.unusedVariables false
set_option maxRecDepth 100000
set_option linter.unusedSimpArgs false
open Wide Purse Tx Sha Ss Esc Vau Lck Do Prep Ful Doo Tri App Inn Low Gene Alv Kee Txl Deal Mss Ots Hash Bytes
set_option maxHeartbeats 1000000
/-- What no step turns. -/
theorem doX_keep {α : Type} (F : SS → α) (h : ∀ (s : SS) (pu va he : Nat → Int), F ⟨s.side, s.time, pu, va, s.no, he, s.bu⟩ = F s) (s : SS) (L : List Lk) (t : Tx) : F (doX s L t).2 = F s := by
  have key : ∀ {x : Int × SS} {f : SS → Int × SS} {n : α}, F x.2 = n → (∀ s : SS, F s = n → F (f s).2 = n) → F (bindE x f).2 = n := fun {x f n} h1 h2 => by
    unfold bindE
    split
    · exact h2 _ h1
    · exact h1
  have tp : ∀ (s : SS) (a i x : Int), F (takeP s a i x).2 = F s := fun s a i x => h s _ s.va s.he
  have pp : ∀ (s : SS) (a i x : Int), F (putP s a i x).2 = F s := fun s a i x => h s _ s.va s.he
  have pv : ∀ (s : SS) (a i x : Int), F (putV s a i x).2 = F s := fun s a i x => h s s.pu _ s.he
  have vv : ∀ (s : SS) (a i x : Int), F (vaultV s a i x).2 = F s := fun s a i x => h s s.pu _ s.he
  have hh : ∀ (s : SS) (a x : Int), F (holdH s a x).2 = F s := fun s a x => h s s.pu s.va _
  have ff : ∀ (s : SS) (a x : Int), F (freeH s a x).2 = F s := fun s a x => h s s.pu s.va _
  have mm : ∀ (s : SS) (a b i x : Int), F (moveP s a b i x).2 = F s := fun s a b i x => h s _ s.va s.he
  unfold doX
  split
  · exact mm _ _ _ _ _
  split
  · exact key (tp _ _ _ _) fun s h => key ((pv _ _ _ _).trans h) fun s h => (hh _ _ _).trans h
  split
  · unfold drawX
    split
    · exact key (vv _ _ _ _) fun s h => key ((pp _ _ _ _).trans h) fun s h => (ff _ _ _).trans h
    · rfl
  split
  · unfold prepX
    repeat' split
    all_goals first
      | rfl
      | exact vv _ _ _ _
      | exact key (tp _ _ _ _) fun s h => (hh _ _ _).trans h
  split
  · unfold fulX
    repeat' split
    all_goals first
      | rfl
      | exact pv _ _ _ _
      | exact key (pp _ _ _ _) fun s h => key ((pp _ _ _ _).trans h) fun s h => (ff _ _ _).trans h
  split
  · unfold canX
    repeat' split
    all_goals first
      | rfl
      | exact pv _ _ _ _
      | exact key (pp _ _ _ _) fun s h => (ff _ _ _).trans h
  · rfl
/-- An error's number. -/
def Eb (x : Int) : Prop := 0 ≤ x ∧ x ≤ 100
theorem eb_n {x : Int} (h0 : 0 ≤ x) (h1 : x ≤ 100) : Eb x := ⟨h0, h1⟩
theorem eb_if {p : Prop} [Decidable p] {a b : Int} (h1 : Eb a) (h2 : Eb b) : Eb (if p then a else b) := by split <;> assumption
theorem eb_bind {x : Int × SS} {f : SS → Int × SS} (h1 : Eb x.1) (h2 : ∀ s, Eb (f s).1) : Eb (bindE x f).1 := by
  unfold bindE
  split
  · exact h2 _
  · exact h1
theorem eb_tk (ns : Nat → Int) (a i x : Int) : Eb (tkR ns a i x).2 := by
  unfold tkR
  split
  · split
    · exact eb_n (x := 0) (by decide) (by decide)
    · exact eb_n (x := 30) (by decide) (by decide)
  · exact eb_n (x := 4) (by decide) (by decide)
theorem eb_gv (ns : Nat → Int) (a i x : Int) : Eb (gvR ns a i x).2 := by
  unfold gvR
  split
  · split
    · exact eb_n (x := 0) (by decide) (by decide)
    · exact eb_n (x := 38) (by decide) (by decide)
  · exact eb_n (x := 4) (by decide) (by decide)
theorem eb_mv (ns : Nat → Int) (a b i x : Int) : Eb (mvR ns a b i x).2 := by
  unfold mvR
  split
  · split
    · exact eb_gv _ _ _ _
    · exact eb_gv _ _ _ _
  · exact eb_tk _ _ _ _
theorem eb_vv (s : SS) (a i x : Int) : Eb (vaultV s a i x).1 := eb_if (eb_n (by decide) (by decide)) (eb_n (by decide) (by decide))
theorem eb_hh (s : SS) (a x : Int) : Eb (holdH s a x).1 := eb_if (eb_n (by decide) (by decide)) (eb_n (by decide) (by decide))
theorem eb_ff (s : SS) (a x : Int) : Eb (freeH s a x).1 := eb_if (eb_n (by decide) (by decide)) (eb_n (by decide) (by decide))
theorem eb_lock (L : List Lk) (t : Tx) : Eb (lockE L t) := by
  unfold lockE
  repeat' split
  all_goals exact eb_n (by decide) (by decide)
theorem eb_do (s : SS) (L : List Lk) (t : Tx) : Eb (doX s L t).1 := by
  unfold doX
  split
  · exact eb_mv _ _ _ _ _
  split
  · exact eb_bind (eb_tk _ _ _ _) fun s => eb_bind (eb_gv _ _ _ _) fun s => eb_hh _ _ _
  split
  · unfold drawX
    split
    · exact eb_bind (eb_vv _ _ _ _) fun s => eb_bind (eb_gv _ _ _ _) fun s => eb_ff _ _ _
    · exact eb_n (x := 37) (by decide) (by decide)
  split
  · unfold prepX
    repeat' split
    all_goals first
      | exact eb_n (x := 32) (by decide) (by decide)
      | exact eb_n (x := 34) (by decide) (by decide)
      | exact eb_n (x := 37) (by decide) (by decide)
      | exact eb_vv _ _ _ _
      | exact eb_bind (eb_tk _ _ _ _) fun s => eb_hh _ _ _
  split
  · unfold fulX
    repeat' split
    all_goals first
      | exact eb_n (x := 34) (by decide) (by decide)
      | exact eb_n (x := 35) (by decide) (by decide)
      | exact eb_n (x := 36) (by decide) (by decide)
      | exact eb_lock _ _
      | exact eb_gv _ _ _ _
      | exact eb_bind (eb_gv _ _ _ _) fun s => eb_bind (eb_gv _ _ _ _) fun s => eb_ff _ _ _
  split
  · unfold canX
    repeat' split
    all_goals first
      | exact eb_n (x := 35) (by decide) (by decide)
      | exact eb_n (x := 37) (by decide) (by decide)
      | exact eb_lock _ _
      | exact eb_gv _ _ _ _
      | exact eb_bind (eb_gv _ _ _ _) fun s => eb_ff _ _ _
  · exact eb_n (x := 0) (by decide) (by decide)
theorem eb_chk (t : Tx) : Eb (chk t) := by
  unfold chk rtE invE sndE
  repeat' split
  all_goals exact eb_n (by decide) (by decide)
theorem keyT_len (t : Tx) : (keyT t).length ≤ 32 := by
  unfold keyT
  rw [keyF_length]
  split <;> omega
theorem digT_len (t : Tx) : (digT t).length ≤ 32 := by
  unfold digT digF
  split
  · rw [sha_length]; omega
  · simp
theorem stL_in {L : List Lk} (h : LIn L) {i : Nat} {x : Int} (hx : I64 x) : LIn (stL L i x) := fun k hk => by
  unfold stL at hk
  rcases List.mem_or_eq_of_mem_set hk with h1 | rfl
  · exact h k h1
  · exact ⟨(h.get i).key, (h.get i).dig, hx⟩
theorem doL_in {L : List Lk} (h : LIn L) (t : Tx) : LIn (doL L t) := by
  unfold doL endL
  split
  · intro k hk
    unfold prepL at hk
    rcases List.mem_append.1 hk with h1 | h1
    · exact h k h1
    · obtain rfl := List.mem_singleton.1 h1
      have h2 := keyT_len t
      have h3 := digT_len t
      exact ⟨by unfold maxLen; show (keyT t).length ≤ _; omega, by unfold maxLen; show (digT t).length ≤ _; omega, i64_of (x := 1) (by decide) (by decide)⟩
  split
  · exact stL_in h (i64_of (by decide) (by decide))
  split
  · exact stL_in h (i64_of (by decide) (by decide))
  · exact h
theorem sok_in {s s' : SS} (h : SIn s) (h' : SOk s') (e1 : s'.side = s.side) (hn : ∀ j, I64 (s'.no j)) : SIn s' := ⟨e1 ▸ h.side, by have := h'.t0; have := h'.t1; exact i64_of (by omega) (by omega), h'.pu, h'.va, hn, h'.he, h'.bu⟩
/-- What comes of a transaction is again such. -/
theorem ap_in {s : SS} {L : List Lk} {t : Tx} {ap : Ap} (e : apF s L t = ap) (hi : SIn s) (hs : SOk s) (hL : LIn L) (ht : TIn t) : SIn ap.s ∧ LIn ap.L ∧ Eb ap.e := by
  have hk := ap_keeps e hs ht
  subst e
  unfold apF at hk ⊢
  split
  · rename_i h1
    split
    · rename_i h2
      split
      · rename_i h3
        have h5 : ∀ j, I64 ((s1F s t).no j) := fun j => by
          show I64 (upd _ _ _ j)
          unfold upd
          split
          · have := chk_no h1
            have h6 : t.no = s.no t.fr.toNat := h2
            show I64 (s.no t.fr.toNat + 1)
            exact i64_of (by omega) (by omega)
          · exact hi.no j
        split
        · rename_i h4
          rw [if_pos h1, if_pos h2, if_pos h3, if_pos h4] at hk
          refine ⟨sok_in hi hk.1 (doX_keep SS.side (fun _ _ _ _ => rfl) _ _ _) ?_, doL_in hL t, eb_n (x := 0) (by decide) (by decide)⟩
          intro j
          have e9 := congrFun (doX_keep SS.no (fun _ _ _ _ => rfl) (s1F s t) L t) j
          show I64 ((doX (s1F s t) L t).2.no j)
          rw [e9]
          exact h5 j
        · rename_i h4
          rw [if_pos h1, if_pos h2, if_pos h3, if_neg h4] at hk
          exact ⟨sok_in hi hk.1 rfl h5, hL, eb_do _ _ _⟩
      · exact ⟨hi, hL, eb_n (x := 21) (by decide) (by decide)⟩
    · exact ⟨hi, hL, eb_n (x := 20) (by decide) (by decide)⟩
  · exact ⟨hi, hL, eb_chk t⟩
theorem ap_side {s : SS} {L : List Lk} {t : Tx} {ap : Ap} (e : apF s L t = ap) : ap.s.side = s.side := by
  subst e
  unfold apF
  repeat' split
  all_goals first
    | rfl
    | exact doX_keep SS.side (fun _ _ _ _ => rfl) _ _ _
theorem gen_in (side time : Int) : SIn (genS side time) := ⟨by
  show I64 (imin (imax side 0) 1)
  unfold imin imax
  (repeat' split) <;> exact i64_of (by omega) (by omega), by
  have h := gen_ok side time
  have := h.t0
  have := h.t1
  exact i64_of (by omega) (by omega), (gen_ok side time).pu, (gen_ok side time).va, fun _ => i64_0, (gen_ok side time).he, (gen_ok side time).bu⟩

end Go.Proofs.YtljbedladifgmaaGreat.Cix
