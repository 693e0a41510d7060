/-
  No cell of these rows narrows 'for every input' (looked for: loops, veiled, ifaces, maps, wideKeys, modest, calm, conditions, laid).
  DERIVED. THE GIVEN ROWS OF THIS SEAT. 8 by the template 'for every input the law returns true; each argument reads behind the call as it read before'; 0 by the template 'total and deterministic' (their statements: YtljbedladifgmaaGreatTotals.lean).
  GIVEN WITH THE SEED: the statements are not yours to turn. If you find one false, say at which input.
  Laid BY PROGRAM, IN A SANDBOX (cutbox-rows.mjs): the forced cells as the released guide's own fill.sh prints them over the translation 51adb6dbff91db87… (all of the seat's roots in one cut). By AI agents, Wed Nov 11 2026. No macro, syntax, notation, axiom, sorry.
-/
import Derived.Test.YtljbedladifgmaaGreatChecked
import GoSem.Claim
import GoSem.ClaimJoined
import GoSem.ClaimMapViews
import Derived.JoinedTies
import Derived.KernelRfl
namespace Go.Proofs.YtljbedladifgmaaGreat
/- THE CELL 'sum', in the pinned program and in every row, IS THE sha256 OF THE DUMP (.gsa) THAT YtljbedladifgmaaGreatProg.lean LOADS. Nothing in Lean hashes anything: it is a label: what it is worth is what the hold of that sum in a sandbox is worth. -/
noncomputable def Tryz.pinned : Pinned := { name := "ytljbedladifgmaagreat", sum := "51adb6dbff91db875b6576724f8b2d6f66d5aa5351ecc323bbf68c6df85017db", checked := Tryz.checked }
namespace Rows
def none {H : Type} : Left H := { results := [], args := [] }

/-- 'narrowslaw12.EscrowRuns': WHATEVER THE INPUT: true; the input reads as it did. -/
def escrowRunsSpec : ChangeSpec := { name := "escrowRuns", fn := fun _ => fun
  | [d1, d2, d3, d4] => { results := [.lit (.bool true)], args := [d1, d2, d3, d4] }
  | _ => none }
def escrowRunsRow : OpenClaim := { program := "ytljbedladifgmaagreat", sum := "51adb6dbff91db875b6576724f8b2d6f66d5aa5351ecc323bbf68c6df85017db", func := "narrows/narrowslaw12.EscrowRuns", spec := "escrowRuns", inPlace := ["math/bits.Sub64", "math/bits.Add64"], unfollowed := true, recurses := true, apart := false }
def EscrowRunsSaid : Prop := escrowRunsRow.holds Tryz.pinned (OpenSpec.ofChange escrowRunsSpec)

/-- ITS FALSE NEIGHBOUR: 'it returns false'. Refute it at one input. -/
def escrowRunsWrong : ChangeSpec := { name := "escrowRuns", fn := fun _ => fun
  | [d1, d2, d3, d4] => { results := [.lit (.bool false)], args := [d1, d2, d3, d4] }
  | _ => none }
def EscrowRunsWrongFalsely : Prop := escrowRunsRow.holds Tryz.pinned (OpenSpec.ofChange escrowRunsWrong)

/-- 'narrowslaw12.EscrowLocks': WHATEVER THE INPUT: true; the input reads as it did. -/
def escrowLocksSpec : ChangeSpec := { name := "escrowLocks", fn := fun _ => fun
  | [d1, d2] => { results := [.lit (.bool true)], args := [d1, d2] }
  | _ => none }
def escrowLocksRow : OpenClaim := { program := "ytljbedladifgmaagreat", sum := "51adb6dbff91db875b6576724f8b2d6f66d5aa5351ecc323bbf68c6df85017db", func := "narrows/narrowslaw12.EscrowLocks", spec := "escrowLocks", inPlace := ["math/bits.Sub64", "math/bits.Add64"], unfollowed := true, recurses := true, apart := false }
def EscrowLocksSaid : Prop := escrowLocksRow.holds Tryz.pinned (OpenSpec.ofChange escrowLocksSpec)

/-- ITS FALSE NEIGHBOUR: 'it returns false'. Refute it at one input. -/
def escrowLocksWrong : ChangeSpec := { name := "escrowLocks", fn := fun _ => fun
  | [d1, d2] => { results := [.lit (.bool false)], args := [d1, d2] }
  | _ => none }
def EscrowLocksWrongFalsely : Prop := escrowLocksRow.holds Tryz.pinned (OpenSpec.ofChange escrowLocksWrong)

/-- 'narrowslaw13.ChainWaits': WHATEVER THE INPUT: true; the input reads as it did. -/
def chainWaitsSpec : ChangeSpec := { name := "chainWaits", fn := fun _ => fun
  | [d1, d2, d3, d4, d5] => { results := [.lit (.bool true)], args := [d1, d2, d3, d4, d5] }
  | _ => none }
def chainWaitsRow : OpenClaim := { program := "ytljbedladifgmaagreat", sum := "51adb6dbff91db875b6576724f8b2d6f66d5aa5351ecc323bbf68c6df85017db", func := "narrows/narrowslaw13.ChainWaits", spec := "chainWaits", inPlace := ["math/bits.Sub64", "math/bits.Add64"], unfollowed := true, recurses := true, apart := false }
def ChainWaitsSaid : Prop := chainWaitsRow.holds Tryz.pinned (OpenSpec.ofChange chainWaitsSpec)

/-- ITS FALSE NEIGHBOUR: 'it returns false'. Refute it at one input. -/
def chainWaitsWrong : ChangeSpec := { name := "chainWaits", fn := fun _ => fun
  | [d1, d2, d3, d4, d5] => { results := [.lit (.bool false)], args := [d1, d2, d3, d4, d5] }
  | _ => none }
def ChainWaitsWrongFalsely : Prop := chainWaitsRow.holds Tryz.pinned (OpenSpec.ofChange chainWaitsWrong)

/-- 'narrowslaw13.ChainStays': WHATEVER THE INPUT: true; the input reads as it did. -/
def chainStaysSpec : ChangeSpec := { name := "chainStays", fn := fun _ => fun
  | [d1, d2, d3] => { results := [.lit (.bool true)], args := [d1, d2, d3] }
  | _ => none }
def chainStaysRow : OpenClaim := { program := "ytljbedladifgmaagreat", sum := "51adb6dbff91db875b6576724f8b2d6f66d5aa5351ecc323bbf68c6df85017db", func := "narrows/narrowslaw13.ChainStays", spec := "chainStays", inPlace := ["math/bits.Sub64", "math/bits.Add64"], unfollowed := true, recurses := true, apart := false }
def ChainStaysSaid : Prop := chainStaysRow.holds Tryz.pinned (OpenSpec.ofChange chainStaysSpec)

/-- ITS FALSE NEIGHBOUR: 'it returns false'. Refute it at one input. -/
def chainStaysWrong : ChangeSpec := { name := "chainStays", fn := fun _ => fun
  | [d1, d2, d3] => { results := [.lit (.bool false)], args := [d1, d2, d3] }
  | _ => none }
def ChainStaysWrongFalsely : Prop := chainStaysRow.holds Tryz.pinned (OpenSpec.ofChange chainStaysWrong)

/-- 'narrowslaw13.ChainRuns': WHATEVER THE INPUT: true; the input reads as it did. -/
def chainRunsSpec : ChangeSpec := { name := "chainRuns", fn := fun _ => fun
  | [d1, d2, d3, d4] => { results := [.lit (.bool true)], args := [d1, d2, d3, d4] }
  | _ => none }
def chainRunsRow : OpenClaim := { program := "ytljbedladifgmaagreat", sum := "51adb6dbff91db875b6576724f8b2d6f66d5aa5351ecc323bbf68c6df85017db", func := "narrows/narrowslaw13.ChainRuns", spec := "chainRuns", inPlace := ["math/bits.Sub64", "math/bits.Add64"], unfollowed := true, recurses := true, apart := false }
def ChainRunsSaid : Prop := chainRunsRow.holds Tryz.pinned (OpenSpec.ofChange chainRunsSpec)

/-- ITS FALSE NEIGHBOUR: 'it returns false'. Refute it at one input. -/
def chainRunsWrong : ChangeSpec := { name := "chainRuns", fn := fun _ => fun
  | [d1, d2, d3, d4] => { results := [.lit (.bool false)], args := [d1, d2, d3, d4] }
  | _ => none }
def ChainRunsWrongFalsely : Prop := chainRunsRow.holds Tryz.pinned (OpenSpec.ofChange chainRunsWrong)

/-- 'narrowslaw13.ChainNobody': WHATEVER THE INPUT: true; the input reads as it did. -/
def chainNobodySpec : ChangeSpec := { name := "chainNobody", fn := fun _ => fun
  | [d1, d2, d3] => { results := [.lit (.bool true)], args := [d1, d2, d3] }
  | _ => none }
def chainNobodyRow : OpenClaim := { program := "ytljbedladifgmaagreat", sum := "51adb6dbff91db875b6576724f8b2d6f66d5aa5351ecc323bbf68c6df85017db", func := "narrows/narrowslaw13.ChainNobody", spec := "chainNobody", inPlace := ["math/bits.Sub64", "math/bits.Add64"], unfollowed := true, recurses := true, apart := false }
def ChainNobodySaid : Prop := chainNobodyRow.holds Tryz.pinned (OpenSpec.ofChange chainNobodySpec)

/-- ITS FALSE NEIGHBOUR: 'it returns false'. Refute it at one input. -/
def chainNobodyWrong : ChangeSpec := { name := "chainNobody", fn := fun _ => fun
  | [d1, d2, d3] => { results := [.lit (.bool false)], args := [d1, d2, d3] }
  | _ => none }
def ChainNobodyWrongFalsely : Prop := chainNobodyRow.holds Tryz.pinned (OpenSpec.ofChange chainNobodyWrong)

/-- 'narrowslaw40.BuilderBuilds': WHATEVER THE INPUT: true; the input reads as it did. -/
def builderBuildsSpec : ChangeSpec := { name := "builderBuilds", fn := fun _ => fun
  | [d1, d2] => { results := [.lit (.bool true)], args := [d1, d2] }
  | _ => none }
def builderBuildsRow : OpenClaim := { program := "ytljbedladifgmaagreat", sum := "51adb6dbff91db875b6576724f8b2d6f66d5aa5351ecc323bbf68c6df85017db", func := "narrows/narrowslaw40.BuilderBuilds", spec := "builderBuilds", inPlace := ["math/bits.Sub64", "math/bits.Add64"], unfollowed := true, recurses := true, apart := false }
def BuilderBuildsSaid : Prop := builderBuildsRow.holds Tryz.pinned (OpenSpec.ofChange builderBuildsSpec)

/-- ITS FALSE NEIGHBOUR: 'it returns false'. Refute it at one input. -/
def builderBuildsWrong : ChangeSpec := { name := "builderBuilds", fn := fun _ => fun
  | [d1, d2] => { results := [.lit (.bool false)], args := [d1, d2] }
  | _ => none }
def BuilderBuildsWrongFalsely : Prop := builderBuildsRow.holds Tryz.pinned (OpenSpec.ofChange builderBuildsWrong)

/-- 'narrowslaw40.BuilderAll': WHATEVER THE INPUT: true; the input reads as it did. -/
def builderAllSpec : ChangeSpec := { name := "builderAll", fn := fun _ => fun
  | [d1, d2] => { results := [.lit (.bool true)], args := [d1, d2] }
  | _ => none }
def builderAllRow : OpenClaim := { program := "ytljbedladifgmaagreat", sum := "51adb6dbff91db875b6576724f8b2d6f66d5aa5351ecc323bbf68c6df85017db", func := "narrows/narrowslaw40.BuilderAll", spec := "builderAll", inPlace := ["math/bits.Sub64", "math/bits.Add64"], unfollowed := true, recurses := true, apart := false }
def BuilderAllSaid : Prop := builderAllRow.holds Tryz.pinned (OpenSpec.ofChange builderAllSpec)

/-- ITS FALSE NEIGHBOUR: 'it returns false'. Refute it at one input. -/
def builderAllWrong : ChangeSpec := { name := "builderAll", fn := fun _ => fun
  | [d1, d2] => { results := [.lit (.bool false)], args := [d1, d2] }
  | _ => none }
def BuilderAllWrongFalsely : Prop := builderAllRow.holds Tryz.pinned (OpenSpec.ofChange builderAllWrong)

/- THE SECOND FORM. 'bulk': how many values and letters a reading holds, each counted each time it is reached (what is shared counts as often as it is met; a slice's spare places count too). A statement '..UptoSaid' is the law's where the arguments, and the package variables that the reading takes, are together of bulk at most 1048576: NARROWER than '..Said'. Prove '..Said' where nothing that the law and all that it calls make is longer than what came in: it says more and counts as full. Else prove '..UptoSaid'. A law counts once. -/
mutual
def uptoBulk {H : Type} : DataW H → Nat
  | .lit (.string bytes) => bytes.length + 1
  | .lit _ => 1
  | .nil => 1
  | .ptr d => uptoBulk d + 1
  | .slice elems spare => uptoBulkAll elems + uptoBulkAll spare + 1
  | .agg parts => uptoBulkAll parts + 1
  | .iface _ d => uptoBulk d + 1
  | .map entries => uptoBulkEntries entries + 1
  | .held _ => 1
def uptoBulkAll {H : Type} : List (DataW H) → Nat
  | [] => 0
  | d :: r => uptoBulk d + uptoBulkAll r
def uptoBulkEntries {H : Type} : List (Lit × DataW H) → Nat
  | [] => 0
  | x :: r => uptoBulkEntry x + uptoBulkEntries r
def uptoBulkEntry {H : Type} : Lit × DataW H → Nat
  | (.string bytes, d) => bytes.length + uptoBulk d + 1
  | (_, d) => uptoBulk d + 1
 end
def uptoSmall : (H : Type) → List (DataW H) → Bool := fun _ ds => decide (uptoBulkAll ds ≤ 1048576)
def OpenSpec.upto (s : _root_.Go.ChangeSpec) : _root_.Go.OpenSpec := { _root_.Go.OpenSpec.ofChange s with cond := some uptoSmall }

/-- 'narrowslaw12.EscrowRuns', WHERE WHAT IT READS IS OF BULK AT MOST 1048576: true; the input reads as it did. -/
def escrowRunsUptoRow : OpenClaim := { program := "ytljbedladifgmaagreat", sum := "51adb6dbff91db875b6576724f8b2d6f66d5aa5351ecc323bbf68c6df85017db", func := "narrows/narrowslaw12.EscrowRuns", spec := "escrowRuns", inPlace := ["math/bits.Sub64", "math/bits.Add64"], unfollowed := true, recurses := true, apart := false, narrowed := true }
def EscrowRunsUptoSaid : Prop := escrowRunsUptoRow.holds Tryz.pinned (OpenSpec.upto escrowRunsSpec)

/-- 'narrowslaw12.EscrowLocks', WHERE WHAT IT READS IS OF BULK AT MOST 1048576: true; the input reads as it did. -/
def escrowLocksUptoRow : OpenClaim := { program := "ytljbedladifgmaagreat", sum := "51adb6dbff91db875b6576724f8b2d6f66d5aa5351ecc323bbf68c6df85017db", func := "narrows/narrowslaw12.EscrowLocks", spec := "escrowLocks", inPlace := ["math/bits.Sub64", "math/bits.Add64"], unfollowed := true, recurses := true, apart := false, narrowed := true }
def EscrowLocksUptoSaid : Prop := escrowLocksUptoRow.holds Tryz.pinned (OpenSpec.upto escrowLocksSpec)

/-- 'narrowslaw13.ChainWaits', WHERE WHAT IT READS IS OF BULK AT MOST 1048576: true; the input reads as it did. -/
def chainWaitsUptoRow : OpenClaim := { program := "ytljbedladifgmaagreat", sum := "51adb6dbff91db875b6576724f8b2d6f66d5aa5351ecc323bbf68c6df85017db", func := "narrows/narrowslaw13.ChainWaits", spec := "chainWaits", inPlace := ["math/bits.Sub64", "math/bits.Add64"], unfollowed := true, recurses := true, apart := false, narrowed := true }
def ChainWaitsUptoSaid : Prop := chainWaitsUptoRow.holds Tryz.pinned (OpenSpec.upto chainWaitsSpec)

/-- 'narrowslaw13.ChainStays', WHERE WHAT IT READS IS OF BULK AT MOST 1048576: true; the input reads as it did. -/
def chainStaysUptoRow : OpenClaim := { program := "ytljbedladifgmaagreat", sum := "51adb6dbff91db875b6576724f8b2d6f66d5aa5351ecc323bbf68c6df85017db", func := "narrows/narrowslaw13.ChainStays", spec := "chainStays", inPlace := ["math/bits.Sub64", "math/bits.Add64"], unfollowed := true, recurses := true, apart := false, narrowed := true }
def ChainStaysUptoSaid : Prop := chainStaysUptoRow.holds Tryz.pinned (OpenSpec.upto chainStaysSpec)

/-- 'narrowslaw13.ChainRuns', WHERE WHAT IT READS IS OF BULK AT MOST 1048576: true; the input reads as it did. -/
def chainRunsUptoRow : OpenClaim := { program := "ytljbedladifgmaagreat", sum := "51adb6dbff91db875b6576724f8b2d6f66d5aa5351ecc323bbf68c6df85017db", func := "narrows/narrowslaw13.ChainRuns", spec := "chainRuns", inPlace := ["math/bits.Sub64", "math/bits.Add64"], unfollowed := true, recurses := true, apart := false, narrowed := true }
def ChainRunsUptoSaid : Prop := chainRunsUptoRow.holds Tryz.pinned (OpenSpec.upto chainRunsSpec)

/-- 'narrowslaw13.ChainNobody', WHERE WHAT IT READS IS OF BULK AT MOST 1048576: true; the input reads as it did. -/
def chainNobodyUptoRow : OpenClaim := { program := "ytljbedladifgmaagreat", sum := "51adb6dbff91db875b6576724f8b2d6f66d5aa5351ecc323bbf68c6df85017db", func := "narrows/narrowslaw13.ChainNobody", spec := "chainNobody", inPlace := ["math/bits.Sub64", "math/bits.Add64"], unfollowed := true, recurses := true, apart := false, narrowed := true }
def ChainNobodyUptoSaid : Prop := chainNobodyUptoRow.holds Tryz.pinned (OpenSpec.upto chainNobodySpec)

/-- 'narrowslaw40.BuilderBuilds', WHERE WHAT IT READS IS OF BULK AT MOST 1048576: true; the input reads as it did. -/
def builderBuildsUptoRow : OpenClaim := { program := "ytljbedladifgmaagreat", sum := "51adb6dbff91db875b6576724f8b2d6f66d5aa5351ecc323bbf68c6df85017db", func := "narrows/narrowslaw40.BuilderBuilds", spec := "builderBuilds", inPlace := ["math/bits.Sub64", "math/bits.Add64"], unfollowed := true, recurses := true, apart := false, narrowed := true }
def BuilderBuildsUptoSaid : Prop := builderBuildsUptoRow.holds Tryz.pinned (OpenSpec.upto builderBuildsSpec)

/-- 'narrowslaw40.BuilderAll', WHERE WHAT IT READS IS OF BULK AT MOST 1048576: true; the input reads as it did. -/
def builderAllUptoRow : OpenClaim := { program := "ytljbedladifgmaagreat", sum := "51adb6dbff91db875b6576724f8b2d6f66d5aa5351ecc323bbf68c6df85017db", func := "narrows/narrowslaw40.BuilderAll", spec := "builderAll", inPlace := ["math/bits.Sub64", "math/bits.Add64"], unfollowed := true, recurses := true, apart := false, narrowed := true }
def BuilderAllUptoSaid : Prop := builderAllUptoRow.holds Tryz.pinned (OpenSpec.upto builderAllSpec)

end Rows
end Go.Proofs.YtljbedladifgmaaGreat
