/-
  Facts on the head of this seat's translation, and how a row's closed facts are put together. No conditions.
-/
import Derived.Test.YtnbckkpflmpnlaaRows
import Derived.WalkKit
import Derived.ProofKit
namespace Go.Proofs.Ytnbckkpflmpnlaa.Head
open Go.ChangeShapes Go.WideShapes Go.ChangeAt Go.RowKit

theorem ws_word (l r : List Char) (h : l.all (fun c => c != Char.ofNat 32) = true) : wordsSigns (l ++ Char.ofNat 32 :: r) = l :: wordsSigns r := by
  induction l with
  | nil => rfl
  | cons c l ih =>
    simp only [List.all_cons, Bool.and_eq_true] at h
    rw [List.cons_append]
    have hc : c ≠ Char.ofNat 32 := by simpa using h.1
    rw [wordsSigns.eq_3 c _ (by intro e; exact hc e), ih h.2]
def W0 : List Char := ([104, 97, 114, 110, 101, 115, 115] : List Nat).map Char.ofNat
def W1 : List Char := ([52, 101, 55, 51, 100, 102, 98, 101, 102, 53, 52, 56, 55, 48, 100, 53, 49, 99, 48, 102, 53, 57, 57, 102, 102, 48, 97, 98, 55, 98, 50, 55, 55, 49, 52, 100, 49, 49, 55, 55, 56, 101, 49, 50, 57, 50, 54, 56, 102, 48, 55, 102, 51, 100, 54, 54, 55, 102, 49, 49, 56, 100, 56, 51] : List Nat).map Char.ofNat
def W2 : List Char := ([99, 117, 116] : List Nat).map Char.ofNat
def W3 : List Char := ([97, 116, 32, 110, 97, 114, 114, 111, 119, 115, 47, 110, 97, 114, 114, 111, 119, 115, 108, 97, 119, 49, 55, 46, 80, 108, 97, 110, 70, 105, 116, 115, 32, 110, 97, 114, 114, 111, 119, 115, 47, 110, 97, 114, 114, 111, 119, 115, 108, 97, 119, 49, 55, 46, 80, 108, 97, 110, 84, 101, 108, 108, 115, 32, 110, 97, 114, 114, 111, 119, 115, 47, 110, 97, 114, 114, 111, 119, 115, 108, 97, 119, 49, 55, 46, 80, 108, 97, 110, 82, 105, 115, 101, 115, 32, 110, 97, 114, 114, 111, 119, 115, 47, 110, 97, 114, 114, 111, 119, 115, 108, 97, 119, 50, 57, 46, 84, 97, 108, 108, 121, 65, 108, 108, 32, 110, 97, 114, 114, 111, 119, 115, 47, 110, 97, 114, 114, 111, 119, 115, 108, 97, 119, 50, 57, 46, 84, 97, 108, 108, 121, 83, 117, 109, 115, 32, 110, 97, 114, 114, 111, 119, 115, 47, 110, 97, 114, 114, 111, 119, 115, 108, 97, 119, 50, 57, 46, 84, 97, 108, 108, 121, 84, 101, 108, 108, 115, 32, 110, 97, 114, 114, 111, 119, 115, 47, 110, 97, 114, 114, 111, 119, 115, 108, 97, 119, 48, 49, 46, 87, 105, 100, 101, 66, 97, 99, 107, 32, 110, 97, 114, 114, 111, 119, 115, 47, 110, 97, 114, 114, 111, 119, 115, 108, 97, 119, 48, 49, 46, 87, 105, 100, 101, 83, 117, 109, 115, 32, 110, 97, 114, 114, 111, 119, 115, 47, 110, 97, 114, 114, 111, 119, 115, 108, 97, 119, 49, 49, 46, 80, 117, 114, 115, 101, 84, 111, 116, 97, 108, 115, 32, 110, 97, 114, 114, 111, 119, 115, 47, 110, 97, 114, 114, 111, 119, 115, 108, 97, 119, 49, 49, 46, 80, 117, 114, 115, 101, 84, 101, 108, 108, 115, 32, 110, 97, 114, 114, 111, 119, 115, 47, 110, 97, 114, 114, 111, 119, 115, 108, 97, 119, 52, 48, 46, 66, 117, 105, 108, 100, 101, 114, 84, 101, 108, 108, 115, 32, 110, 97, 114, 114, 111, 119, 115, 47, 110, 97, 114, 114, 111, 119, 115, 108, 97, 119, 49, 49, 46, 80, 117, 114, 115, 101, 77, 111, 118, 101, 115, 32, 110, 97, 114, 114, 111, 119, 115, 47, 110, 97, 114, 114, 111, 119, 115, 108, 97, 119, 48, 49, 46, 87, 105, 100, 101, 84, 101, 108, 108, 115, 32, 110, 97, 114, 114, 111, 119, 115, 47, 110, 97, 114, 114, 111, 119, 115, 108, 97, 119, 48, 49, 46, 87, 105, 100, 101, 68, 105, 118, 105, 100, 101, 115, 32, 110, 97, 114, 114, 111, 119, 115, 47, 110, 97, 114, 114, 111, 119, 115, 108, 97, 119, 49, 56, 46, 81, 117, 111, 116, 101, 66, 101, 108, 111, 119, 32, 110, 97, 114, 114, 111, 119, 115, 47, 110, 97, 114, 114, 111, 119, 115, 108, 97, 119, 51, 50, 46, 84, 101, 120, 116, 66, 97, 99, 107, 32, 110, 97, 114, 114, 111, 119, 115, 47, 110, 97, 114, 114, 111, 119, 115, 108, 97, 119, 51, 50, 46, 84, 101, 120, 116, 82, 101, 97, 100, 115, 32, 110, 97, 114, 114, 111, 119, 115, 47, 110, 97, 114, 114, 111, 119, 115, 108, 97, 119, 51, 50, 46, 84, 101, 120, 116, 79, 114, 100, 101, 114, 32, 110, 97, 114, 114, 111, 119, 115, 47, 110, 97, 114, 114, 111, 119, 115, 108, 97, 119, 49, 56, 46, 81, 117, 111, 116, 101, 67, 111, 118, 101, 114, 115, 32, 110, 97, 114, 114, 111, 119, 115, 47, 110, 97, 114, 114, 111, 119, 115, 108, 97, 119, 49, 56, 46, 81, 117, 111, 116, 101, 84, 101, 108, 108, 115, 32, 110, 97, 114, 114, 111, 119, 115, 47, 110, 97, 114, 114, 111, 119, 115, 108, 97, 119, 51, 50, 46, 84, 101, 120, 116, 76, 105, 110, 101, 115] : List Nat).map Char.ofNat
set_option maxRecDepth 100000 in
theorem io0 : Try.prog.initOrder = String.ofList (W0 ++ Char.ofNat 32 :: (W1 ++ Char.ofNat 32 :: (W2 ++ Char.ofNat 32 :: W3))) := by kernel_rfl
theorem io : wordsSigns Try.prog.initOrder.toList = W0 :: W1 :: W2 :: wordsSigns W3 := by
  rw [io0, String.toList_ofList, ws_word W0 _ (by decide +kernel), ws_word W1 _ (by decide +kernel), ws_word W2 _ (by decide +kernel)]
theorem bm (r : List (List Char)) : behindMainWord (W0 :: W1 :: W2 :: r) = W2 :: r := by kernel_rfl
theorem make_of (P : Program) (r : List (List Char)) (h : wordsSigns P.initOrder.toList = W0 :: W1 :: W2 :: r) : P.make = some Make.cut := by
  unfold Program.make
  rw [h, bm]
  kernel_rfl
theorem lifts_of (P : Program) (r : List (List Char)) (h : wordsSigns P.initOrder.toList = W0 :: W1 :: W2 :: r) : P.liftsFinal = false := by
  unfold Program.liftsFinal Program.headLifts
  rw [h, bm]
  kernel_rfl
theorem strip_cut (l : List String) (r : List (List Char)) (h : (l.all fun o => W2 != o.toList) = true) : stripLifts l (W2 :: r) = ([], W2 :: r) := by
  induction l with
  | nil => rfl
  | cons o l ih =>
    simp only [List.all_cons, Bool.and_eq_true, bne_iff_ne, ne_eq] at h
    unfold stripLifts
    rw [if_neg (by simpa using h.1)]
    exact ih h.2
theorem may_of (P : Program) (r : List (List Char)) (h : wordsSigns P.initOrder.toList = W0 :: W1 :: W2 :: r) (h1 : P.laysLater = false) (h2 : P.bearsReflect = false) (h3 : P.doorFits [] = true) : P.mayEnter = true := by
  unfold Program.mayEnter
  rw [h, bm]
  simp only
  rw [strip_cut liftWords r (by decide +kernel), h1, h2, h3]
  kernel_rfl
theorem ll : Try.prog.laysLater = false := by kernel_rfl
theorem br : Try.prog.bearsReflect = false := by kernel_rfl
theorem df : Try.prog.doorFits [] = true := by kernel_rfl
theorem may : Try.prog.mayEnter = true := may_of _ _ io ll br df
theorem lifts {b : Bool} (h : b = false) : (b == Try.prog.liftsFinal) = true := by rw [lifts_of _ _ io, h]; rfl
theorem made {m : Make} (h : m = Make.cut) : (Try.prog.make == some m) = true := by rw [make_of _ _ io, h]; rfl
theorem andI {a b : Bool} (ha : a = true) (hb : b = true) : (a && b) = true := by rw [ha, hb]; rfl
theorem own : ownKnob Try.prog.godebug = none := by kernel_rfl
end Go.Proofs.Ytnbckkpflmpnlaa.Head
