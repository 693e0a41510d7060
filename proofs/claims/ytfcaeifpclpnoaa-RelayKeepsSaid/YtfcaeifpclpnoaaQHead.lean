/-
  Facts on the head of this seat's translation, and how a row's closed facts are put together. No conditions.
-/
import Derived.Test.YtfcaeifpclpnoaaRows
import Derived.WalkKit
import Derived.ProofKit
namespace Go.Proofs.Ytfcaeifpclpnoaa.Head
open Go.ChangeShapes Go.WideShapes Go.ChangeAt Go.RowKit

theorem ws_word (l r : List Char) (h : l.all (fun c => c != Char.ofNat 32) = true) : wordsSigns (l ++ Char.ofNat 32 :: r) = l :: wordsSigns r := by
  induction l with
  | nil => rfl
  | cons c l ih =>
    simp only [List.all_cons, Bool.and_eq_true] at h
    rw [List.cons_append]
    have hc : c ≠ Char.ofNat 32 := by simpa using h.1
    rw [wordsSigns.eq_3 c _ (by intro e; exact hc e), ih h.2]
def W0 : List Char := ([104, 97, 114, 110, 101, 115, 115] : List Nat).map Char.ofNat
def W1 : List Char := ([54, 48, 56, 49, 97, 55, 55, 56, 102, 53, 54, 49, 99, 99, 49, 99, 98, 102, 56, 50, 56, 54, 52, 51, 54, 100, 101, 57, 48, 55, 100, 55, 102, 102, 102, 99, 100, 101, 98, 57, 57, 51, 101, 49, 50, 57, 97, 48, 101, 98, 98, 52, 55, 100, 48, 101, 55, 49, 52, 102, 55, 57, 100, 49] : List Nat).map Char.ofNat
def W2 : List Char := ([99, 117, 116] : List Nat).map Char.ofNat
def W3 : List Char := ([97, 116, 32, 110, 97, 114, 114, 111, 119, 115, 47, 110, 97, 114, 114, 111, 119, 115, 108, 97, 119, 50, 48, 46, 67, 108, 105, 101, 110, 116, 70, 101, 101, 115, 32, 110, 97, 114, 114, 111, 119, 115, 47, 110, 97, 114, 114, 111, 119, 115, 108, 97, 119, 51, 50, 46, 84, 101, 120, 116, 76, 105, 110, 101, 115, 32, 110, 97, 114, 114, 111, 119, 115, 47, 110, 97, 114, 114, 111, 119, 115, 108, 97, 119, 50, 48, 46, 67, 108, 105, 101, 110, 116, 65, 115, 107, 115, 32, 110, 97, 114, 114, 111, 119, 115, 47, 110, 97, 114, 114, 111, 119, 115, 108, 97, 119, 50, 50, 46, 82, 101, 108, 97, 121, 75, 101, 101, 112, 115] : List Nat).map Char.ofNat
set_option maxRecDepth 100000 in
theorem io0 : Try.prog.initOrder = String.ofList (W0 ++ Char.ofNat 32 :: (W1 ++ Char.ofNat 32 :: (W2 ++ Char.ofNat 32 :: W3))) := by kernel_rfl
theorem io : wordsSigns Try.prog.initOrder.toList = W0 :: W1 :: W2 :: wordsSigns W3 := by
  rw [io0, String.toList_ofList, ws_word W0 _ (by decide +kernel), ws_word W1 _ (by decide +kernel), ws_word W2 _ (by decide +kernel)]
theorem bm (r : List (List Char)) : behindMainWord (W0 :: W1 :: W2 :: r) = W2 :: r := by kernel_rfl
theorem make_of (P : Program) (r : List (List Char)) (h : wordsSigns P.initOrder.toList = W0 :: W1 :: W2 :: r) : P.make = some Make.cut := by
  unfold Program.make
  rw [h, bm]
  kernel_rfl
theorem lifts_of (P : Program) (r : List (List Char)) (h : wordsSigns P.initOrder.toList = W0 :: W1 :: W2 :: r) : P.liftsFinal = false := by
  unfold Program.liftsFinal Program.headLifts
  rw [h, bm]
  kernel_rfl
theorem strip_cut (l : List String) (r : List (List Char)) (h : (l.all fun o => W2 != o.toList) = true) : stripLifts l (W2 :: r) = ([], W2 :: r) := by
  induction l with
  | nil => rfl
  | cons o l ih =>
    simp only [List.all_cons, Bool.and_eq_true, bne_iff_ne, ne_eq] at h
    unfold stripLifts
    rw [if_neg (by simpa using h.1)]
    exact ih h.2
theorem may_of (P : Program) (r : List (List Char)) (h : wordsSigns P.initOrder.toList = W0 :: W1 :: W2 :: r) (h1 : P.laysLater = false) (h2 : P.bearsReflect = false) (h3 : P.doorFits [] = true) : P.mayEnter = true := by
  unfold Program.mayEnter
  rw [h, bm]
  simp only
  rw [strip_cut liftWords r (by decide +kernel), h1, h2, h3]
  kernel_rfl
theorem ll : Try.prog.laysLater = false := by kernel_rfl
theorem br : Try.prog.bearsReflect = false := by kernel_rfl
theorem df : Try.prog.doorFits [] = true := by kernel_rfl
theorem may : Try.prog.mayEnter = true := may_of _ _ io ll br df
theorem lifts {b : Bool} (h : b = false) : (b == Try.prog.liftsFinal) = true := by rw [lifts_of _ _ io, h]; rfl
theorem made {m : Make} (h : m = Make.cut) : (Try.prog.make == some m) = true := by rw [make_of _ _ io, h]; rfl
theorem andI {a b : Bool} (ha : a = true) (hb : b = true) : (a && b) = true := by rw [ha, hb]; rfl
theorem own : ownKnob Try.prog.godebug = none := by kernel_rfl
end Go.Proofs.Ytfcaeifpclpnoaa.Head
