/-
  No cell of these rows narrows 'for every input' (looked for: loops, veiled, ifaces, maps, wideKeys, modest, calm, conditions, laid).
  DERIVED. THE GIVEN ROWS OF THIS SEAT. 3 by the template 'for every input the law returns true; each argument reads behind the call as it read before'; 0 by the template 'total and deterministic' (their statements: YtljbedladifgmaaTotals.lean).
  GIVEN WITH THE SEED: the statements are not yours to turn. If you find one false, say at which input.
  Laid BY PROGRAM, IN A SANDBOX (cutbox-rows.mjs): the forced cells as the released guide's own fill.sh prints them over the translation 17193a5890298cc8… (all of the seat's roots in one cut). By AI agents, Wed Nov 11 2026. No macro, syntax, notation, axiom, sorry.
-/
import Derived.Test.YtljbedladifgmaaChecked
import GoSem.Claim
import GoSem.ClaimJoined
import GoSem.ClaimMapViews
import Derived.JoinedTies
import Derived.KernelRfl
namespace Go.Proofs.Ytljbedladifgmaa
/- THE CELL 'sum', in the pinned program and in every row, IS THE sha256 OF THE DUMP (.gsa) THAT YtljbedladifgmaaProg.lean LOADS. Nothing in Lean hashes anything: it is a label: what it is worth is what the hold of that sum in a sandbox is worth. -/
noncomputable def Try.pinned : Pinned := { name := "ytljbedladifgmaa", sum := "17193a5890298cc89c77ded4212b3768c800e97cee60cf378d8e3b3c1ddea7a9", checked := Try.checked }
namespace Rows
def none {H : Type} : Left H := { results := [], args := [] }

/-- 'narrowslaw12.EscrowReverts': WHATEVER THE INPUT: true; the input reads as it did. -/
def escrowRevertsSpec : ChangeSpec := { name := "escrowReverts", fn := fun _ => fun
  | [d1, d2] => { results := [.lit (.bool true)], args := [d1, d2] }
  | _ => none }
def escrowRevertsRow : OpenClaim := { program := "ytljbedladifgmaa", sum := "17193a5890298cc89c77ded4212b3768c800e97cee60cf378d8e3b3c1ddea7a9", func := "narrows/narrowslaw12.EscrowReverts", spec := "escrowReverts", inPlace := ["math/bits.Sub64", "math/bits.Add64"], unfollowed := true, recurses := true, apart := false }
def EscrowRevertsSaid : Prop := escrowRevertsRow.holds Try.pinned (OpenSpec.ofChange escrowRevertsSpec)

/-- ITS FALSE NEIGHBOUR: 'it returns false'. Refute it at one input. -/
def escrowRevertsWrong : ChangeSpec := { name := "escrowReverts", fn := fun _ => fun
  | [d1, d2] => { results := [.lit (.bool false)], args := [d1, d2] }
  | _ => none }
def EscrowRevertsWrongFalsely : Prop := escrowRevertsRow.holds Try.pinned (OpenSpec.ofChange escrowRevertsWrong)

/-- 'narrowslaw12.EscrowPlain': WHATEVER THE INPUT: true; the input reads as it did. -/
def escrowPlainSpec : ChangeSpec := { name := "escrowPlain", fn := fun _ => fun
  | [d1, d2, d3, d4] => { results := [.lit (.bool true)], args := [d1, d2, d3, d4] }
  | _ => none }
def escrowPlainRow : OpenClaim := { program := "ytljbedladifgmaa", sum := "17193a5890298cc89c77ded4212b3768c800e97cee60cf378d8e3b3c1ddea7a9", func := "narrows/narrowslaw12.EscrowPlain", spec := "escrowPlain", inPlace := ["math/bits.Sub64", "math/bits.Add64"], unfollowed := true, recurses := true, apart := false }
def EscrowPlainSaid : Prop := escrowPlainRow.holds Try.pinned (OpenSpec.ofChange escrowPlainSpec)

/-- ITS FALSE NEIGHBOUR: 'it returns false'. Refute it at one input. -/
def escrowPlainWrong : ChangeSpec := { name := "escrowPlain", fn := fun _ => fun
  | [d1, d2, d3, d4] => { results := [.lit (.bool false)], args := [d1, d2, d3, d4] }
  | _ => none }
def EscrowPlainWrongFalsely : Prop := escrowPlainRow.holds Try.pinned (OpenSpec.ofChange escrowPlainWrong)

/-- 'narrowslaw12.EscrowWhole': WHATEVER THE INPUT: true; the input reads as it did. -/
def escrowWholeSpec : ChangeSpec := { name := "escrowWhole", fn := fun _ => fun
  | [d1, d2, d3] => { results := [.lit (.bool true)], args := [d1, d2, d3] }
  | _ => none }
def escrowWholeRow : OpenClaim := { program := "ytljbedladifgmaa", sum := "17193a5890298cc89c77ded4212b3768c800e97cee60cf378d8e3b3c1ddea7a9", func := "narrows/narrowslaw12.EscrowWhole", spec := "escrowWhole", inPlace := ["math/bits.Sub64", "math/bits.Add64"], unfollowed := true, recurses := true, apart := false }
def EscrowWholeSaid : Prop := escrowWholeRow.holds Try.pinned (OpenSpec.ofChange escrowWholeSpec)

/-- ITS FALSE NEIGHBOUR: 'it returns false'. Refute it at one input. -/
def escrowWholeWrong : ChangeSpec := { name := "escrowWhole", fn := fun _ => fun
  | [d1, d2, d3] => { results := [.lit (.bool false)], args := [d1, d2, d3] }
  | _ => none }
def EscrowWholeWrongFalsely : Prop := escrowWholeRow.holds Try.pinned (OpenSpec.ofChange escrowWholeWrong)

/- THE SECOND FORM. 'bulk': how many values and letters a reading holds, each counted each time it is reached (what is shared counts as often as it is met; a slice's spare places count too). A statement '..UptoSaid' is the law's where the arguments, and the package variables that the reading takes, are together of bulk at most 1048576: NARROWER than '..Said'. Prove '..Said' where nothing that the law and all that it calls make is longer than what came in: it says more and counts as full. Else prove '..UptoSaid'. A law counts once. -/
mutual
def uptoBulk {H : Type} : DataW H → Nat
  | .lit (.string bytes) => bytes.length + 1
  | .lit _ => 1
  | .nil => 1
  | .ptr d => uptoBulk d + 1
  | .slice elems spare => uptoBulkAll elems + uptoBulkAll spare + 1
  | .agg parts => uptoBulkAll parts + 1
  | .iface _ d => uptoBulk d + 1
  | .map entries => uptoBulkEntries entries + 1
  | .held _ => 1
def uptoBulkAll {H : Type} : List (DataW H) → Nat
  | [] => 0
  | d :: r => uptoBulk d + uptoBulkAll r
def uptoBulkEntries {H : Type} : List (Lit × DataW H) → Nat
  | [] => 0
  | x :: r => uptoBulkEntry x + uptoBulkEntries r
def uptoBulkEntry {H : Type} : Lit × DataW H → Nat
  | (.string bytes, d) => bytes.length + uptoBulk d + 1
  | (_, d) => uptoBulk d + 1
 end
def uptoSmall : (H : Type) → List (DataW H) → Bool := fun _ ds => decide (uptoBulkAll ds ≤ 1048576)
def OpenSpec.upto (s : _root_.Go.ChangeSpec) : _root_.Go.OpenSpec := { _root_.Go.OpenSpec.ofChange s with cond := some uptoSmall }

/-- 'narrowslaw12.EscrowReverts', WHERE WHAT IT READS IS OF BULK AT MOST 1048576: true; the input reads as it did. -/
def escrowRevertsUptoRow : OpenClaim := { program := "ytljbedladifgmaa", sum := "17193a5890298cc89c77ded4212b3768c800e97cee60cf378d8e3b3c1ddea7a9", func := "narrows/narrowslaw12.EscrowReverts", spec := "escrowReverts", inPlace := ["math/bits.Sub64", "math/bits.Add64"], unfollowed := true, recurses := true, apart := false, narrowed := true }
def EscrowRevertsUptoSaid : Prop := escrowRevertsUptoRow.holds Try.pinned (OpenSpec.upto escrowRevertsSpec)

/-- 'narrowslaw12.EscrowPlain', WHERE WHAT IT READS IS OF BULK AT MOST 1048576: true; the input reads as it did. -/
def escrowPlainUptoRow : OpenClaim := { program := "ytljbedladifgmaa", sum := "17193a5890298cc89c77ded4212b3768c800e97cee60cf378d8e3b3c1ddea7a9", func := "narrows/narrowslaw12.EscrowPlain", spec := "escrowPlain", inPlace := ["math/bits.Sub64", "math/bits.Add64"], unfollowed := true, recurses := true, apart := false, narrowed := true }
def EscrowPlainUptoSaid : Prop := escrowPlainUptoRow.holds Try.pinned (OpenSpec.upto escrowPlainSpec)

/-- 'narrowslaw12.EscrowWhole', WHERE WHAT IT READS IS OF BULK AT MOST 1048576: true; the input reads as it did. -/
def escrowWholeUptoRow : OpenClaim := { program := "ytljbedladifgmaa", sum := "17193a5890298cc89c77ded4212b3768c800e97cee60cf378d8e3b3c1ddea7a9", func := "narrows/narrowslaw12.EscrowWhole", spec := "escrowWhole", inPlace := ["math/bits.Sub64", "math/bits.Add64"], unfollowed := true, recurses := true, apart := false, narrowed := true }
def EscrowWholeUptoSaid : Prop := escrowWholeUptoRow.holds Try.pinned (OpenSpec.upto escrowWholeSpec)

end Rows
end Go.Proofs.Ytljbedladifgmaa
