/-
  What was written is read. No conditions.
-/
import Derived.Test.YtfcaeifpclpnoaaQRly2
namespace Go.Proofs.Ytfcaeifpclpnoaa.Rtp
open Go Go.RowKit Eng
set_option linter.unusedVariables false
set_option maxRecDepth 100000
set_option linter.unusedSimpArgs false
open Sha Iter Hash Bytes Hsum Wide Tx Field Deal Msg Fld Fld2 Unw Fld3 Cas Rdr Mch Mpt Mrd Ots Rly Rly2
set_option maxHeartbeats 2000000
theorem take_enc {a r : List UInt8} {n : Nat} (h : a.length = n) : pTake n (a ++ r, 0) = ((r, 0), a) := by
  rw [pTake_y (by rw [List.length_append]; omega), ← h, List.drop_left, List.take_left]
theorem num_enc {n : Int} {r : List UInt8} (h0 : 0 ≤ n) (h1 : n ≤ 1099511627776) : pNum 1099511627776 (num n.toNat 6 ++ r, 0) = ((r, 0), n) := by
  have hb : be (num n.toNat 6) = n.toNat := by rw [be_num]; exact Nat.mod_eq_of_lt (by omega)
  unfold pNum
  rw [take_enc (num_length 6 n.toNat), hb, if_neg (by unfold imin; dsimp only; split <;> omega)]
  dsimp only
  rw [Int.toNat_of_nonneg h0]
theorem text_enc {s r : List UInt8} {m : Int} (h : (s.length : Int) ≤ m) (h2 : s.length ≤ 1024) : pText m (tx s ++ r, 0) = ((r, 0), s) := by
  have hb : be (num s.length 2) = s.length := by rw [be_num]; exact Nat.mod_eq_of_lt (by omega)
  unfold pText tx
  rw [List.append_assoc, take_enc (num_length 2 s.length), hb, if_neg (by unfold imin; dsimp only; split <;> omega)]
  exact take_enc rfl
theorem wide_enc {n : Int} {r : List UInt8} (h : Wd n) : pWide (wb n ++ r, 0) = ((r, 0), n) := by
  have hb : be (num n.toNat 32) = n.toNat := by rw [be_num]; exact Nat.mod_eq_of_lt (by unfold Wd at h; omega)
  unfold pWide wb
  rw [take_enc (num_length 32 n.toNat), hb]
  dsimp only
  rw [Int.toNat_of_nonneg h.1]
theorem inv_enc {i : Iv} {r : List UInt8} (h : invE i.us i.rt i.ro i.se i.re i.to i.id = 0) : pInv (invB i.us i.rt i.ro i.se i.re i.to i.id ++ r, 0) = ((r, 0), i) := by
  obtain ⟨u0, u1, r0, r1, s0, s1, e0, e1, t0, t1, rl, i0, i1⟩ := inv_ok h
  have q1 : ∀ R, pText 16 (tx [105, 110, 118] ++ R, 0) = ((R, 0), [105, 110, 118]) := fun R => text_enc (by decide) (by decide)
  have q2 : ∀ R, pNum 1099511627776 (num i.us.toNat 6 ++ R, 0) = ((R, 0), i.us) := fun R => num_enc u0 (by omega)
  have q3 : ∀ R, pText 8 (tx i.rt ++ R, 0) = ((R, 0), i.rt) := fun R => text_enc (by omega) (by omega)
  have q4 : ∀ R, pNum 1099511627776 (num i.ro.toNat 6 ++ R, 0) = ((R, 0), i.ro) := fun R => num_enc (by omega) (by omega)
  have q5 : ∀ R, pNum 1099511627776 (num i.se.toNat 6 ++ R, 0) = ((R, 0), i.se) := fun R => num_enc (by omega) (by omega)
  have q6 : ∀ R, pNum 1099511627776 (num i.re.toNat 6 ++ R, 0) = ((R, 0), i.re) := fun R => num_enc (by omega) (by omega)
  have q7 : ∀ R, pNum 1099511627776 (num i.to.toNat 6 ++ R, 0) = ((R, 0), i.to) := fun R => num_enc (by omega) (by omega)
  have q8 : ∀ R, pText 16 (tx i.id ++ R, 0) = ((R, 0), i.id) := fun R => text_enc (by omega) (by omega)
  unfold invB
  simp only [List.append_assoc]
  unfold pInv
  simp only [q1, q2, q3, q4, q5, q6, q7, q8]
  exact if_pos ⟨trivial, trivial, h⟩
theorem var_enc {va ex : Int} {r : List UInt8} (hv : Wd va) (h : sndE va ex = 0) : pVar (varB va ex ++ r, 0) = ((r, 0), (va, ex)) := by
  obtain ⟨v0, v1, v2⟩ := var_ok h
  have q1 : ∀ R, pWide (wb va ++ R, 0) = ((R, 0), va) := fun R => wide_enc hv
  have q2 : ∀ R, pNum 1099511627776 (num ex.toNat 6 ++ R, 0) = ((R, 0), ex) := fun R => num_enc v1 v2
  unfold varB
  simp only [List.append_assoc]
  unfold pVar
  simp only [q1, q2]
  exact if_pos ⟨trivial, h⟩
/-- What of a release is told. -/
def m3 (m : Mg) : Mg := ⟨3, ak0, bd0, m.inv, m.va, m.ex, m.fee, m.sg⟩
theorem m3_E {m : Mg} (hk : m.ki = 3) (h : mgE m = 0) : mgE (m3 m) = 0 := by
  rw [mgE_3 hk] at h
  rw [mgE_3 rfl]
  exact h
theorem read_enc {m : Mg} (hm : MgIn m) (hk : m.ki = 3) (h : mgE m = 0) : pRead (mgB m) = (m3 m, 0) := by
  have hl := mgB_le h
  have ho : pOpen (mgB m) = (mgB m, 0) := if_pos (by omega)
  rcases mg_kinds h with ⟨h1, _⟩ | ⟨h1, _⟩ | ⟨_, h2, h3, h4⟩
  · omega
  · omega
  have q0 : ∀ R, pNum 1099511627776 (num m.ki.toNat 6 ++ R, 0) = ((R, 0), m.ki) := fun R => num_enc (by omega) (by omega)
  have q1 : ∀ R, pInv (invB m.inv.us m.inv.rt m.inv.ro m.inv.se m.inv.re m.inv.to m.inv.id ++ R, 0) = ((R, 0), m.inv) := fun R => inv_enc h2
  have q2 : ∀ R, pVar (varB m.va m.ex ++ R, 0) = ((R, 0), (m.va, m.ex)) := fun R => var_enc hm.va h3
  have q3 : ∀ R, pWide (wb m.fee ++ R, 0) = ((R, 0), m.fee) := fun R => wide_enc hm.fee
  have q4 : pText 1024 (tx m.sg, 0) = (([], 0), m.sg) := by
    have h5 := text_enc (s := m.sg) (r := []) (m := 1024) (by omega) h4
    rw [List.append_nil] at h5
    exact h5
  unfold pRead
  rw [ho, mgB_3 hk, q0]
  dsimp only
  unfold pBody
  rw [if_neg (by omega), if_neg (by omega), if_pos hk]
  simp only [List.append_assoc, q1, q2, q3, q4]
  rw [hk]
  exact pEnd_y rfl rfl (m3_E hk h)
end Go.Proofs.Ytfcaeifpclpnoaa.Rtp
