/-
  No cell of these rows narrows 'for every input' (looked for: loops, veiled, ifaces, maps, wideKeys, modest, calm, conditions, laid).
  DERIVED. THE GIVEN ROWS OF THIS SEAT. 4 by the template 'for every input the law returns true; each argument reads behind the call as it read before'; 0 by the template 'total and deterministic' (their statements: YtfcaeifpclpnoaaTotals.lean).
  GIVEN WITH THE SEED: the statements are not yours to turn. If you find one false, say at which input.
  Laid BY PROGRAM, IN A SANDBOX (cutbox-rows.mjs): the forced cells as the released guide's own fill.sh prints them over the translation 5aaf24084640cc20… (all of the seat's roots in one cut). By AI agents, Wed Nov 11 2026. No macro, syntax, notation, axiom, sorry.
-/
import Derived.Test.YtfcaeifpclpnoaaChecked
import GoSem.Claim
import GoSem.ClaimJoined
import GoSem.ClaimMapViews
import Derived.JoinedTies
import Derived.KernelRfl
namespace Go.Proofs.Ytfcaeifpclpnoaa
/- THE CELL 'sum', in the pinned program and in every row, IS THE sha256 OF THE DUMP (.gsa) THAT YtfcaeifpclpnoaaProg.lean LOADS. Nothing in Lean hashes anything: it is a label: what it is worth is what the hold of that sum in a sandbox is worth. -/
noncomputable def Try.pinned : Pinned := { name := "ytfcaeifpclpnoaa", sum := "5aaf24084640cc2077b8f96f41d9a095f932f3a518206c45369a916274ace7e2", checked := Try.checked }
namespace Rows
def none {H : Type} : Left H := { results := [], args := [] }

/-- 'narrowslaw20.ClientFees': WHATEVER THE INPUT: true; the input reads as it did. -/
def clientFeesSpec : ChangeSpec := { name := "clientFees", fn := fun _ => fun
  | [d1, d2] => { results := [.lit (.bool true)], args := [d1, d2] }
  | _ => none }
def clientFeesRow : OpenClaim := { program := "ytfcaeifpclpnoaa", sum := "5aaf24084640cc2077b8f96f41d9a095f932f3a518206c45369a916274ace7e2", func := "narrows/narrowslaw20.ClientFees", spec := "clientFees", unfollowed := true, recurses := true, apart := false }
def ClientFeesSaid : Prop := clientFeesRow.holds Try.pinned (OpenSpec.ofChange clientFeesSpec)

/-- ITS FALSE NEIGHBOUR: 'it returns false'. Refute it at one input. -/
def clientFeesWrong : ChangeSpec := { name := "clientFees", fn := fun _ => fun
  | [d1, d2] => { results := [.lit (.bool false)], args := [d1, d2] }
  | _ => none }
def ClientFeesWrongFalsely : Prop := clientFeesRow.holds Try.pinned (OpenSpec.ofChange clientFeesWrong)

/-- 'narrowslaw32.TextLines': WHATEVER THE INPUT: true; the input reads as it did. -/
def textLinesSpec : ChangeSpec := { name := "textLines", fn := fun _ => fun
  | [d1, d2] => { results := [.lit (.bool true)], args := [d1, d2] }
  | _ => none }
def textLinesRow : OpenClaim := { program := "ytfcaeifpclpnoaa", sum := "5aaf24084640cc2077b8f96f41d9a095f932f3a518206c45369a916274ace7e2", func := "narrows/narrowslaw32.TextLines", spec := "textLines", inPlace := ["math/bits.Add64", "internal/abi.NoEscape", "internal/bytealg.MakeNoZero"], unfollowed := true, recurses := true, named := ["math/bits.divideError", "math/bits.overflowError"], apart := false }
def TextLinesSaid : Prop := textLinesRow.holds Try.pinned (OpenSpec.ofChange textLinesSpec)

/-- ITS FALSE NEIGHBOUR: 'it returns false'. Refute it at one input. -/
def textLinesWrong : ChangeSpec := { name := "textLines", fn := fun _ => fun
  | [d1, d2] => { results := [.lit (.bool false)], args := [d1, d2] }
  | _ => none }
def TextLinesWrongFalsely : Prop := textLinesRow.holds Try.pinned (OpenSpec.ofChange textLinesWrong)

/-- 'narrowslaw20.ClientAsks': WHATEVER THE INPUT: true; the input reads as it did. -/
def clientAsksSpec : ChangeSpec := { name := "clientAsks", fn := fun _ => fun
  | [d1, d2, d3, d4] => { results := [.lit (.bool true)], args := [d1, d2, d3, d4] }
  | _ => none }
def clientAsksRow : OpenClaim := { program := "ytfcaeifpclpnoaa", sum := "5aaf24084640cc2077b8f96f41d9a095f932f3a518206c45369a916274ace7e2", func := "narrows/narrowslaw20.ClientAsks", spec := "clientAsks", unfollowed := true, recurses := true, apart := false }
def ClientAsksSaid : Prop := clientAsksRow.holds Try.pinned (OpenSpec.ofChange clientAsksSpec)

/-- ITS FALSE NEIGHBOUR: 'it returns false'. Refute it at one input. -/
def clientAsksWrong : ChangeSpec := { name := "clientAsks", fn := fun _ => fun
  | [d1, d2, d3, d4] => { results := [.lit (.bool false)], args := [d1, d2, d3, d4] }
  | _ => none }
def ClientAsksWrongFalsely : Prop := clientAsksRow.holds Try.pinned (OpenSpec.ofChange clientAsksWrong)

/-- 'narrowslaw22.RelayKeeps': WHATEVER THE INPUT: true; the input reads as it did. -/
def relayKeepsSpec : ChangeSpec := { name := "relayKeeps", fn := fun _ => fun
  | [d] => { results := [.lit (.bool true)], args := [d] }
  | _ => none }
def relayKeepsRow : OpenClaim := { program := "ytfcaeifpclpnoaa", sum := "5aaf24084640cc2077b8f96f41d9a095f932f3a518206c45369a916274ace7e2", func := "narrows/narrowslaw22.RelayKeeps", spec := "relayKeeps", unfollowed := true, recurses := true, apart := false }
def RelayKeepsSaid : Prop := relayKeepsRow.holds Try.pinned (OpenSpec.ofChange relayKeepsSpec)

/-- ITS FALSE NEIGHBOUR: 'it returns false'. Refute it at one input. -/
def relayKeepsWrong : ChangeSpec := { name := "relayKeeps", fn := fun _ => fun
  | [d] => { results := [.lit (.bool false)], args := [d] }
  | _ => none }
def RelayKeepsWrongFalsely : Prop := relayKeepsRow.holds Try.pinned (OpenSpec.ofChange relayKeepsWrong)

/- THE SECOND FORM. 'bulk': how many values and letters a reading holds, each counted each time it is reached (what is shared counts as often as it is met; a slice's spare places count too). A statement '..UptoSaid' is the law's where the arguments, and the package variables that the reading takes, are together of bulk at most 1048576: NARROWER than '..Said'. Prove '..Said' where nothing that the law and all that it calls make is longer than what came in: it says more and counts as full. Else prove '..UptoSaid'. A law counts once. -/
mutual
def uptoBulk {H : Type} : DataW H → Nat
  | .lit (.string bytes) => bytes.length + 1
  | .lit _ => 1
  | .nil => 1
  | .ptr d => uptoBulk d + 1
  | .slice elems spare => uptoBulkAll elems + uptoBulkAll spare + 1
  | .agg parts => uptoBulkAll parts + 1
  | .iface _ d => uptoBulk d + 1
  | .map entries => uptoBulkEntries entries + 1
  | .held _ => 1
def uptoBulkAll {H : Type} : List (DataW H) → Nat
  | [] => 0
  | d :: r => uptoBulk d + uptoBulkAll r
def uptoBulkEntries {H : Type} : List (Lit × DataW H) → Nat
  | [] => 0
  | x :: r => uptoBulkEntry x + uptoBulkEntries r
def uptoBulkEntry {H : Type} : Lit × DataW H → Nat
  | (.string bytes, d) => bytes.length + uptoBulk d + 1
  | (_, d) => uptoBulk d + 1
 end
def uptoSmall : (H : Type) → List (DataW H) → Bool := fun _ ds => decide (uptoBulkAll ds ≤ 1048576)
def OpenSpec.upto (s : _root_.Go.ChangeSpec) : _root_.Go.OpenSpec := { _root_.Go.OpenSpec.ofChange s with cond := some uptoSmall }

/-- 'narrowslaw20.ClientFees', WHERE WHAT IT READS IS OF BULK AT MOST 1048576: true; the input reads as it did. -/
def clientFeesUptoRow : OpenClaim := { program := "ytfcaeifpclpnoaa", sum := "5aaf24084640cc2077b8f96f41d9a095f932f3a518206c45369a916274ace7e2", func := "narrows/narrowslaw20.ClientFees", spec := "clientFees", unfollowed := true, recurses := true, apart := false, narrowed := true }
def ClientFeesUptoSaid : Prop := clientFeesUptoRow.holds Try.pinned (OpenSpec.upto clientFeesSpec)

/-- 'narrowslaw32.TextLines', WHERE WHAT IT READS IS OF BULK AT MOST 1048576: true; the input reads as it did. -/
def textLinesUptoRow : OpenClaim := { program := "ytfcaeifpclpnoaa", sum := "5aaf24084640cc2077b8f96f41d9a095f932f3a518206c45369a916274ace7e2", func := "narrows/narrowslaw32.TextLines", spec := "textLines", inPlace := ["math/bits.Add64", "internal/abi.NoEscape", "internal/bytealg.MakeNoZero"], unfollowed := true, recurses := true, named := ["math/bits.divideError", "math/bits.overflowError"], apart := false, narrowed := true }
def TextLinesUptoSaid : Prop := textLinesUptoRow.holds Try.pinned (OpenSpec.upto textLinesSpec)

/-- 'narrowslaw20.ClientAsks', WHERE WHAT IT READS IS OF BULK AT MOST 1048576: true; the input reads as it did. -/
def clientAsksUptoRow : OpenClaim := { program := "ytfcaeifpclpnoaa", sum := "5aaf24084640cc2077b8f96f41d9a095f932f3a518206c45369a916274ace7e2", func := "narrows/narrowslaw20.ClientAsks", spec := "clientAsks", unfollowed := true, recurses := true, apart := false, narrowed := true }
def ClientAsksUptoSaid : Prop := clientAsksUptoRow.holds Try.pinned (OpenSpec.upto clientAsksSpec)

/-- 'narrowslaw22.RelayKeeps', WHERE WHAT IT READS IS OF BULK AT MOST 1048576: true; the input reads as it did. -/
def relayKeepsUptoRow : OpenClaim := { program := "ytfcaeifpclpnoaa", sum := "5aaf24084640cc2077b8f96f41d9a095f932f3a518206c45369a916274ace7e2", func := "narrows/narrowslaw22.RelayKeeps", spec := "relayKeeps", unfollowed := true, recurses := true, apart := false, narrowed := true }
def RelayKeepsUptoSaid : Prop := relayKeepsUptoRow.holds Try.pinned (OpenSpec.upto relayKeepsSpec)

end Rows
end Go.Proofs.Ytfcaeifpclpnoaa
