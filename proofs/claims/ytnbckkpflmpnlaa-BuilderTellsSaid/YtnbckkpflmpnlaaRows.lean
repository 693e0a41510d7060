/-
  No cell of these rows narrows 'for every input' (looked for: loops, veiled, ifaces, maps, wideKeys, modest, calm, conditions, laid).
  DERIVED. THE GIVEN ROWS OF THIS SEAT. 21 by the template 'for every input the law returns true; each argument reads behind the call as it read before'; 0 by the template 'total and deterministic' (their statements: YtnbckkpflmpnlaaTotals.lean).
  GIVEN WITH THE SEED: the statements are not yours to turn. If you find one false, say at which input.
  Laid BY PROGRAM, IN A SANDBOX (cutbox-rows.mjs): the forced cells as the released guide's own fill.sh prints them over the translation 08bc1ffb836e00a3… (all of the seat's roots in one cut). By AI agents, Wed Nov 11 2026. No macro, syntax, notation, axiom, sorry.
-/
import Derived.Test.YtnbckkpflmpnlaaChecked
import GoSem.Claim
import GoSem.ClaimJoined
import GoSem.ClaimMapViews
import Derived.JoinedTies
import Derived.KernelRfl
namespace Go.Proofs.Ytnbckkpflmpnlaa
/- THE CELL 'sum', in the pinned program and in every row, IS THE sha256 OF THE DUMP (.gsa) THAT YtnbckkpflmpnlaaProg.lean LOADS. Nothing in Lean hashes anything: it is a label: what it is worth is what the hold of that sum in a sandbox is worth. -/
noncomputable def Try.pinned : Pinned := { name := "ytnbckkpflmpnlaa", sum := "08bc1ffb836e00a32b8dbaec99b30922eb99b11b3c47f3b0f343a227da8f7dde", checked := Try.checked }
namespace Rows
def none {H : Type} : Left H := { results := [], args := [] }

/-- 'narrowslaw17.PlanFits': WHATEVER THE INPUT: true; the input reads as it did. -/
def planFitsSpec : ChangeSpec := { name := "planFits", fn := fun _ => fun
  | [d1, d2] => { results := [.lit (.bool true)], args := [d1, d2] }
  | _ => none }
def planFitsRow : OpenClaim := { program := "ytnbckkpflmpnlaa", sum := "08bc1ffb836e00a32b8dbaec99b30922eb99b11b3c47f3b0f343a227da8f7dde", func := "narrows/narrowslaw17.PlanFits", spec := "planFits", apart := false }
def PlanFitsSaid : Prop := planFitsRow.holds Try.pinned (OpenSpec.ofChange planFitsSpec)

/-- ITS FALSE NEIGHBOUR: 'it returns false'. Refute it at one input. -/
def planFitsWrong : ChangeSpec := { name := "planFits", fn := fun _ => fun
  | [d1, d2] => { results := [.lit (.bool false)], args := [d1, d2] }
  | _ => none }
def PlanFitsWrongFalsely : Prop := planFitsRow.holds Try.pinned (OpenSpec.ofChange planFitsWrong)

/-- 'narrowslaw17.PlanTells': WHATEVER THE INPUT: true; the input reads as it did. -/
def planTellsSpec : ChangeSpec := { name := "planTells", fn := fun _ => fun
  | [d1, d2, d3] => { results := [.lit (.bool true)], args := [d1, d2, d3] }
  | _ => none }
def planTellsRow : OpenClaim := { program := "ytnbckkpflmpnlaa", sum := "08bc1ffb836e00a32b8dbaec99b30922eb99b11b3c47f3b0f343a227da8f7dde", func := "narrows/narrowslaw17.PlanTells", spec := "planTells", apart := false }
def PlanTellsSaid : Prop := planTellsRow.holds Try.pinned (OpenSpec.ofChange planTellsSpec)

/-- ITS FALSE NEIGHBOUR: 'it returns false'. Refute it at one input. -/
def planTellsWrong : ChangeSpec := { name := "planTells", fn := fun _ => fun
  | [d1, d2, d3] => { results := [.lit (.bool false)], args := [d1, d2, d3] }
  | _ => none }
def PlanTellsWrongFalsely : Prop := planTellsRow.holds Try.pinned (OpenSpec.ofChange planTellsWrong)

/-- 'narrowslaw17.PlanRises': WHATEVER THE INPUT: true; the input reads as it did. -/
def planRisesSpec : ChangeSpec := { name := "planRises", fn := fun _ => fun
  | [d1, d2, d3] => { results := [.lit (.bool true)], args := [d1, d2, d3] }
  | _ => none }
def planRisesRow : OpenClaim := { program := "ytnbckkpflmpnlaa", sum := "08bc1ffb836e00a32b8dbaec99b30922eb99b11b3c47f3b0f343a227da8f7dde", func := "narrows/narrowslaw17.PlanRises", spec := "planRises", apart := false }
def PlanRisesSaid : Prop := planRisesRow.holds Try.pinned (OpenSpec.ofChange planRisesSpec)

/-- ITS FALSE NEIGHBOUR: 'it returns false'. Refute it at one input. -/
def planRisesWrong : ChangeSpec := { name := "planRises", fn := fun _ => fun
  | [d1, d2, d3] => { results := [.lit (.bool false)], args := [d1, d2, d3] }
  | _ => none }
def PlanRisesWrongFalsely : Prop := planRisesRow.holds Try.pinned (OpenSpec.ofChange planRisesWrong)

/-- 'narrowslaw29.TallyAll': WHATEVER THE INPUT: true; the input reads as it did. -/
def tallyAllSpec : ChangeSpec := { name := "tallyAll", fn := fun _ => fun
  | [d] => { results := [.lit (.bool true)], args := [d] }
  | _ => none }
def tallyAllRow : OpenClaim := { program := "ytnbckkpflmpnlaa", sum := "08bc1ffb836e00a32b8dbaec99b30922eb99b11b3c47f3b0f343a227da8f7dde", func := "narrows/narrowslaw29.TallyAll", spec := "tallyAll", apart := false }
def TallyAllSaid : Prop := tallyAllRow.holds Try.pinned (OpenSpec.ofChange tallyAllSpec)

/-- ITS FALSE NEIGHBOUR: 'it returns false'. Refute it at one input. -/
def tallyAllWrong : ChangeSpec := { name := "tallyAll", fn := fun _ => fun
  | [d] => { results := [.lit (.bool false)], args := [d] }
  | _ => none }
def TallyAllWrongFalsely : Prop := tallyAllRow.holds Try.pinned (OpenSpec.ofChange tallyAllWrong)

/-- 'narrowslaw29.TallySums': WHATEVER THE INPUT: true; the input reads as it did. -/
def tallySumsSpec : ChangeSpec := { name := "tallySums", fn := fun _ => fun
  | [d1, d2, d3, d4] => { results := [.lit (.bool true)], args := [d1, d2, d3, d4] }
  | _ => none }
def tallySumsRow : OpenClaim := { program := "ytnbckkpflmpnlaa", sum := "08bc1ffb836e00a32b8dbaec99b30922eb99b11b3c47f3b0f343a227da8f7dde", func := "narrows/narrowslaw29.TallySums", spec := "tallySums", apart := false }
def TallySumsSaid : Prop := tallySumsRow.holds Try.pinned (OpenSpec.ofChange tallySumsSpec)

/-- ITS FALSE NEIGHBOUR: 'it returns false'. Refute it at one input. -/
def tallySumsWrong : ChangeSpec := { name := "tallySums", fn := fun _ => fun
  | [d1, d2, d3, d4] => { results := [.lit (.bool false)], args := [d1, d2, d3, d4] }
  | _ => none }
def TallySumsWrongFalsely : Prop := tallySumsRow.holds Try.pinned (OpenSpec.ofChange tallySumsWrong)

/-- 'narrowslaw29.TallyTells': WHATEVER THE INPUT: true; the input reads as it did. -/
def tallyTellsSpec : ChangeSpec := { name := "tallyTells", fn := fun _ => fun
  | [d1, d2] => { results := [.lit (.bool true)], args := [d1, d2] }
  | _ => none }
def tallyTellsRow : OpenClaim := { program := "ytnbckkpflmpnlaa", sum := "08bc1ffb836e00a32b8dbaec99b30922eb99b11b3c47f3b0f343a227da8f7dde", func := "narrows/narrowslaw29.TallyTells", spec := "tallyTells", apart := false }
def TallyTellsSaid : Prop := tallyTellsRow.holds Try.pinned (OpenSpec.ofChange tallyTellsSpec)

/-- ITS FALSE NEIGHBOUR: 'it returns false'. Refute it at one input. -/
def tallyTellsWrong : ChangeSpec := { name := "tallyTells", fn := fun _ => fun
  | [d1, d2] => { results := [.lit (.bool false)], args := [d1, d2] }
  | _ => none }
def TallyTellsWrongFalsely : Prop := tallyTellsRow.holds Try.pinned (OpenSpec.ofChange tallyTellsWrong)

/-- 'narrowslaw01.WideBack': WHATEVER THE INPUT: true; the input reads as it did. -/
def wideBackSpec : ChangeSpec := { name := "wideBack", fn := fun _ => fun
  | [d1, d2] => { results := [.lit (.bool true)], args := [d1, d2] }
  | _ => none }
def wideBackRow : OpenClaim := { program := "ytnbckkpflmpnlaa", sum := "08bc1ffb836e00a32b8dbaec99b30922eb99b11b3c47f3b0f343a227da8f7dde", func := "narrows/narrowslaw01.WideBack", spec := "wideBack", inPlace := ["math/bits.Sub64", "math/bits.Add64"], apart := false }
def WideBackSaid : Prop := wideBackRow.holds Try.pinned (OpenSpec.ofChange wideBackSpec)

/-- ITS FALSE NEIGHBOUR: 'it returns false'. Refute it at one input. -/
def wideBackWrong : ChangeSpec := { name := "wideBack", fn := fun _ => fun
  | [d1, d2] => { results := [.lit (.bool false)], args := [d1, d2] }
  | _ => none }
def WideBackWrongFalsely : Prop := wideBackRow.holds Try.pinned (OpenSpec.ofChange wideBackWrong)

/-- 'narrowslaw01.WideSums': WHATEVER THE INPUT: true; the input reads as it did. -/
def wideSumsSpec : ChangeSpec := { name := "wideSums", fn := fun _ => fun
  | [d1, d2] => { results := [.lit (.bool true)], args := [d1, d2] }
  | _ => none }
def wideSumsRow : OpenClaim := { program := "ytnbckkpflmpnlaa", sum := "08bc1ffb836e00a32b8dbaec99b30922eb99b11b3c47f3b0f343a227da8f7dde", func := "narrows/narrowslaw01.WideSums", spec := "wideSums", inPlace := ["math/bits.Sub64", "math/bits.Add64"], apart := false }
def WideSumsSaid : Prop := wideSumsRow.holds Try.pinned (OpenSpec.ofChange wideSumsSpec)

/-- ITS FALSE NEIGHBOUR: 'it returns false'. Refute it at one input. -/
def wideSumsWrong : ChangeSpec := { name := "wideSums", fn := fun _ => fun
  | [d1, d2] => { results := [.lit (.bool false)], args := [d1, d2] }
  | _ => none }
def WideSumsWrongFalsely : Prop := wideSumsRow.holds Try.pinned (OpenSpec.ofChange wideSumsWrong)

/-- 'narrowslaw11.PurseTotals': WHATEVER THE INPUT: true; the input reads as it did. -/
def purseTotalsSpec : ChangeSpec := { name := "purseTotals", fn := fun _ => fun
  | [d1, d2] => { results := [.lit (.bool true)], args := [d1, d2] }
  | _ => none }
def purseTotalsRow : OpenClaim := { program := "ytnbckkpflmpnlaa", sum := "08bc1ffb836e00a32b8dbaec99b30922eb99b11b3c47f3b0f343a227da8f7dde", func := "narrows/narrowslaw11.PurseTotals", spec := "purseTotals", inPlace := ["math/bits.Add64"], apart := false }
def PurseTotalsSaid : Prop := purseTotalsRow.holds Try.pinned (OpenSpec.ofChange purseTotalsSpec)

/-- ITS FALSE NEIGHBOUR: 'it returns false'. Refute it at one input. -/
def purseTotalsWrong : ChangeSpec := { name := "purseTotals", fn := fun _ => fun
  | [d1, d2] => { results := [.lit (.bool false)], args := [d1, d2] }
  | _ => none }
def PurseTotalsWrongFalsely : Prop := purseTotalsRow.holds Try.pinned (OpenSpec.ofChange purseTotalsWrong)

/-- 'narrowslaw11.PurseTells': WHATEVER THE INPUT: true; the input reads as it did. -/
def purseTellsSpec : ChangeSpec := { name := "purseTells", fn := fun _ => fun
  | [d1, d2, d3, d4, d5] => { results := [.lit (.bool true)], args := [d1, d2, d3, d4, d5] }
  | _ => none }
def purseTellsRow : OpenClaim := { program := "ytnbckkpflmpnlaa", sum := "08bc1ffb836e00a32b8dbaec99b30922eb99b11b3c47f3b0f343a227da8f7dde", func := "narrows/narrowslaw11.PurseTells", spec := "purseTells", inPlace := ["math/bits.Add64", "math/bits.Sub64"], apart := false }
def PurseTellsSaid : Prop := purseTellsRow.holds Try.pinned (OpenSpec.ofChange purseTellsSpec)

/-- ITS FALSE NEIGHBOUR: 'it returns false'. Refute it at one input. -/
def purseTellsWrong : ChangeSpec := { name := "purseTells", fn := fun _ => fun
  | [d1, d2, d3, d4, d5] => { results := [.lit (.bool false)], args := [d1, d2, d3, d4, d5] }
  | _ => none }
def PurseTellsWrongFalsely : Prop := purseTellsRow.holds Try.pinned (OpenSpec.ofChange purseTellsWrong)

/-- 'narrowslaw40.BuilderTells': WHATEVER THE INPUT: true; the input reads as it did. -/
def builderTellsSpec : ChangeSpec := { name := "builderTells", fn := fun _ => fun
  | [d1, d2] => { results := [.lit (.bool true)], args := [d1, d2] }
  | _ => none }
def builderTellsRow : OpenClaim := { program := "ytnbckkpflmpnlaa", sum := "08bc1ffb836e00a32b8dbaec99b30922eb99b11b3c47f3b0f343a227da8f7dde", func := "narrows/narrowslaw40.BuilderTells", spec := "builderTells", apart := false }
def BuilderTellsSaid : Prop := builderTellsRow.holds Try.pinned (OpenSpec.ofChange builderTellsSpec)

/-- ITS FALSE NEIGHBOUR: 'it returns false'. Refute it at one input. -/
def builderTellsWrong : ChangeSpec := { name := "builderTells", fn := fun _ => fun
  | [d1, d2] => { results := [.lit (.bool false)], args := [d1, d2] }
  | _ => none }
def BuilderTellsWrongFalsely : Prop := builderTellsRow.holds Try.pinned (OpenSpec.ofChange builderTellsWrong)

/-- 'narrowslaw11.PurseMoves': WHATEVER THE INPUT: true; the input reads as it did. -/
def purseMovesSpec : ChangeSpec := { name := "purseMoves", fn := fun _ => fun
  | [d1, d2, d3, d4, d5] => { results := [.lit (.bool true)], args := [d1, d2, d3, d4, d5] }
  | _ => none }
def purseMovesRow : OpenClaim := { program := "ytnbckkpflmpnlaa", sum := "08bc1ffb836e00a32b8dbaec99b30922eb99b11b3c47f3b0f343a227da8f7dde", func := "narrows/narrowslaw11.PurseMoves", spec := "purseMoves", inPlace := ["math/bits.Add64", "math/bits.Sub64"], apart := false }
def PurseMovesSaid : Prop := purseMovesRow.holds Try.pinned (OpenSpec.ofChange purseMovesSpec)

/-- ITS FALSE NEIGHBOUR: 'it returns false'. Refute it at one input. -/
def purseMovesWrong : ChangeSpec := { name := "purseMoves", fn := fun _ => fun
  | [d1, d2, d3, d4, d5] => { results := [.lit (.bool false)], args := [d1, d2, d3, d4, d5] }
  | _ => none }
def PurseMovesWrongFalsely : Prop := purseMovesRow.holds Try.pinned (OpenSpec.ofChange purseMovesWrong)

/-- 'narrowslaw01.WideTells': WHATEVER THE INPUT: true; the input reads as it did. -/
def wideTellsSpec : ChangeSpec := { name := "wideTells", fn := fun _ => fun
  | [d1, d2, d3] => { results := [.lit (.bool true)], args := [d1, d2, d3] }
  | _ => none }
def wideTellsRow : OpenClaim := { program := "ytnbckkpflmpnlaa", sum := "08bc1ffb836e00a32b8dbaec99b30922eb99b11b3c47f3b0f343a227da8f7dde", func := "narrows/narrowslaw01.WideTells", spec := "wideTells", inPlace := ["math/bits.Add64", "math/bits.Sub64"], unfollowed := true, recurses := true, apart := false }
def WideTellsSaid : Prop := wideTellsRow.holds Try.pinned (OpenSpec.ofChange wideTellsSpec)

/-- ITS FALSE NEIGHBOUR: 'it returns false'. Refute it at one input. -/
def wideTellsWrong : ChangeSpec := { name := "wideTells", fn := fun _ => fun
  | [d1, d2, d3] => { results := [.lit (.bool false)], args := [d1, d2, d3] }
  | _ => none }
def WideTellsWrongFalsely : Prop := wideTellsRow.holds Try.pinned (OpenSpec.ofChange wideTellsWrong)

/-- 'narrowslaw01.WideDivides': WHATEVER THE INPUT: true; the input reads as it did. -/
def wideDividesSpec : ChangeSpec := { name := "wideDivides", fn := fun _ => fun
  | [d1, d2] => { results := [.lit (.bool true)], args := [d1, d2] }
  | _ => none }
def wideDividesRow : OpenClaim := { program := "ytnbckkpflmpnlaa", sum := "08bc1ffb836e00a32b8dbaec99b30922eb99b11b3c47f3b0f343a227da8f7dde", func := "narrows/narrowslaw01.WideDivides", spec := "wideDivides", inPlace := ["math/bits.Sub64", "math/bits.Add64"], unfollowed := true, recurses := true, named := ["math/bits.divideError", "math/bits.overflowError"], apart := false }
def WideDividesSaid : Prop := wideDividesRow.holds Try.pinned (OpenSpec.ofChange wideDividesSpec)

/-- ITS FALSE NEIGHBOUR: 'it returns false'. Refute it at one input. -/
def wideDividesWrong : ChangeSpec := { name := "wideDivides", fn := fun _ => fun
  | [d1, d2] => { results := [.lit (.bool false)], args := [d1, d2] }
  | _ => none }
def WideDividesWrongFalsely : Prop := wideDividesRow.holds Try.pinned (OpenSpec.ofChange wideDividesWrong)

/-- 'narrowslaw18.QuoteBelow': WHATEVER THE INPUT: true; the input reads as it did. -/
def quoteBelowSpec : ChangeSpec := { name := "quoteBelow", fn := fun _ => fun
  | [d1, d2] => { results := [.lit (.bool true)], args := [d1, d2] }
  | _ => none }
def quoteBelowRow : OpenClaim := { program := "ytnbckkpflmpnlaa", sum := "08bc1ffb836e00a32b8dbaec99b30922eb99b11b3c47f3b0f343a227da8f7dde", func := "narrows/narrowslaw18.QuoteBelow", spec := "quoteBelow", inPlace := ["math/bits.Add64", "math/bits.Sub64"], unfollowed := true, recurses := true, named := ["math/bits.divideError", "math/bits.overflowError"], apart := false }
def QuoteBelowSaid : Prop := quoteBelowRow.holds Try.pinned (OpenSpec.ofChange quoteBelowSpec)

/-- ITS FALSE NEIGHBOUR: 'it returns false'. Refute it at one input. -/
def quoteBelowWrong : ChangeSpec := { name := "quoteBelow", fn := fun _ => fun
  | [d1, d2] => { results := [.lit (.bool false)], args := [d1, d2] }
  | _ => none }
def QuoteBelowWrongFalsely : Prop := quoteBelowRow.holds Try.pinned (OpenSpec.ofChange quoteBelowWrong)

/-- 'narrowslaw32.TextBack': WHATEVER THE INPUT: true; the input reads as it did. -/
def textBackSpec : ChangeSpec := { name := "textBack", fn := fun _ => fun
  | [d1, d2] => { results := [.lit (.bool true)], args := [d1, d2] }
  | _ => none }
def textBackRow : OpenClaim := { program := "ytnbckkpflmpnlaa", sum := "08bc1ffb836e00a32b8dbaec99b30922eb99b11b3c47f3b0f343a227da8f7dde", func := "narrows/narrowslaw32.TextBack", spec := "textBack", inPlace := ["math/bits.Add64"], unfollowed := true, recurses := true, named := ["math/bits.divideError", "math/bits.overflowError"], apart := false }
def TextBackSaid : Prop := textBackRow.holds Try.pinned (OpenSpec.ofChange textBackSpec)

/-- ITS FALSE NEIGHBOUR: 'it returns false'. Refute it at one input. -/
def textBackWrong : ChangeSpec := { name := "textBack", fn := fun _ => fun
  | [d1, d2] => { results := [.lit (.bool false)], args := [d1, d2] }
  | _ => none }
def TextBackWrongFalsely : Prop := textBackRow.holds Try.pinned (OpenSpec.ofChange textBackWrong)

/-- 'narrowslaw32.TextReads': WHATEVER THE INPUT: true; the input reads as it did. -/
def textReadsSpec : ChangeSpec := { name := "textReads", fn := fun _ => fun
  | [d] => { results := [.lit (.bool true)], args := [d] }
  | _ => none }
def textReadsRow : OpenClaim := { program := "ytnbckkpflmpnlaa", sum := "08bc1ffb836e00a32b8dbaec99b30922eb99b11b3c47f3b0f343a227da8f7dde", func := "narrows/narrowslaw32.TextReads", spec := "textReads", inPlace := ["math/bits.Add64"], unfollowed := true, recurses := true, named := ["math/bits.divideError", "math/bits.overflowError"], apart := false }
def TextReadsSaid : Prop := textReadsRow.holds Try.pinned (OpenSpec.ofChange textReadsSpec)

/-- ITS FALSE NEIGHBOUR: 'it returns false'. Refute it at one input. -/
def textReadsWrong : ChangeSpec := { name := "textReads", fn := fun _ => fun
  | [d] => { results := [.lit (.bool false)], args := [d] }
  | _ => none }
def TextReadsWrongFalsely : Prop := textReadsRow.holds Try.pinned (OpenSpec.ofChange textReadsWrong)

/-- 'narrowslaw32.TextOrder': WHATEVER THE INPUT: true; the input reads as it did. -/
def textOrderSpec : ChangeSpec := { name := "textOrder", fn := fun _ => fun
  | [d1, d2] => { results := [.lit (.bool true)], args := [d1, d2] }
  | _ => none }
def textOrderRow : OpenClaim := { program := "ytnbckkpflmpnlaa", sum := "08bc1ffb836e00a32b8dbaec99b30922eb99b11b3c47f3b0f343a227da8f7dde", func := "narrows/narrowslaw32.TextOrder", spec := "textOrder", inPlace := ["math/bits.Add64"], unfollowed := true, recurses := true, named := ["math/bits.divideError", "math/bits.overflowError"], apart := false }
def TextOrderSaid : Prop := textOrderRow.holds Try.pinned (OpenSpec.ofChange textOrderSpec)

/-- ITS FALSE NEIGHBOUR: 'it returns false'. Refute it at one input. -/
def textOrderWrong : ChangeSpec := { name := "textOrder", fn := fun _ => fun
  | [d1, d2] => { results := [.lit (.bool false)], args := [d1, d2] }
  | _ => none }
def TextOrderWrongFalsely : Prop := textOrderRow.holds Try.pinned (OpenSpec.ofChange textOrderWrong)

/-- 'narrowslaw18.QuoteCovers': WHATEVER THE INPUT: true; the input reads as it did. -/
def quoteCoversSpec : ChangeSpec := { name := "quoteCovers", fn := fun _ => fun
  | [d1, d2, d3, d4] => { results := [.lit (.bool true)], args := [d1, d2, d3, d4] }
  | _ => none }
def quoteCoversRow : OpenClaim := { program := "ytnbckkpflmpnlaa", sum := "08bc1ffb836e00a32b8dbaec99b30922eb99b11b3c47f3b0f343a227da8f7dde", func := "narrows/narrowslaw18.QuoteCovers", spec := "quoteCovers", inPlace := ["math/bits.Add64", "math/bits.Sub64"], unfollowed := true, recurses := true, named := ["math/bits.divideError", "math/bits.overflowError"], apart := false }
def QuoteCoversSaid : Prop := quoteCoversRow.holds Try.pinned (OpenSpec.ofChange quoteCoversSpec)

/-- ITS FALSE NEIGHBOUR: 'it returns false'. Refute it at one input. -/
def quoteCoversWrong : ChangeSpec := { name := "quoteCovers", fn := fun _ => fun
  | [d1, d2, d3, d4] => { results := [.lit (.bool false)], args := [d1, d2, d3, d4] }
  | _ => none }
def QuoteCoversWrongFalsely : Prop := quoteCoversRow.holds Try.pinned (OpenSpec.ofChange quoteCoversWrong)

/-- 'narrowslaw18.QuoteTells': WHATEVER THE INPUT: true; the input reads as it did. -/
def quoteTellsSpec : ChangeSpec := { name := "quoteTells", fn := fun _ => fun
  | [d1, d2, d3, d4, d5] => { results := [.lit (.bool true)], args := [d1, d2, d3, d4, d5] }
  | _ => none }
def quoteTellsRow : OpenClaim := { program := "ytnbckkpflmpnlaa", sum := "08bc1ffb836e00a32b8dbaec99b30922eb99b11b3c47f3b0f343a227da8f7dde", func := "narrows/narrowslaw18.QuoteTells", spec := "quoteTells", inPlace := ["math/bits.Add64", "math/bits.Sub64"], unfollowed := true, recurses := true, named := ["math/bits.divideError", "math/bits.overflowError"], apart := false }
def QuoteTellsSaid : Prop := quoteTellsRow.holds Try.pinned (OpenSpec.ofChange quoteTellsSpec)

/-- ITS FALSE NEIGHBOUR: 'it returns false'. Refute it at one input. -/
def quoteTellsWrong : ChangeSpec := { name := "quoteTells", fn := fun _ => fun
  | [d1, d2, d3, d4, d5] => { results := [.lit (.bool false)], args := [d1, d2, d3, d4, d5] }
  | _ => none }
def QuoteTellsWrongFalsely : Prop := quoteTellsRow.holds Try.pinned (OpenSpec.ofChange quoteTellsWrong)

/-- 'narrowslaw32.TextLines': WHATEVER THE INPUT: true; the input reads as it did. -/
def textLinesSpec : ChangeSpec := { name := "textLines", fn := fun _ => fun
  | [d1, d2] => { results := [.lit (.bool true)], args := [d1, d2] }
  | _ => none }
def textLinesRow : OpenClaim := { program := "ytnbckkpflmpnlaa", sum := "08bc1ffb836e00a32b8dbaec99b30922eb99b11b3c47f3b0f343a227da8f7dde", func := "narrows/narrowslaw32.TextLines", spec := "textLines", inPlace := ["math/bits.Add64", "internal/abi.NoEscape", "internal/bytealg.MakeNoZero"], unfollowed := true, recurses := true, named := ["math/bits.divideError", "math/bits.overflowError"], apart := false }
def TextLinesSaid : Prop := textLinesRow.holds Try.pinned (OpenSpec.ofChange textLinesSpec)

/-- ITS FALSE NEIGHBOUR: 'it returns false'. Refute it at one input. -/
def textLinesWrong : ChangeSpec := { name := "textLines", fn := fun _ => fun
  | [d1, d2] => { results := [.lit (.bool false)], args := [d1, d2] }
  | _ => none }
def TextLinesWrongFalsely : Prop := textLinesRow.holds Try.pinned (OpenSpec.ofChange textLinesWrong)

/- THE SECOND FORM. 'bulk': how many values and letters a reading holds, each counted each time it is reached (what is shared counts as often as it is met; a slice's spare places count too). A statement '..UptoSaid' is the law's where the arguments, and the package variables that the reading takes, are together of bulk at most 1048576: NARROWER than '..Said'. Prove '..Said' where nothing that the law and all that it calls make is longer than what came in: it says more and counts as full. Else prove '..UptoSaid'. A law counts once. -/
mutual
def uptoBulk {H : Type} : DataW H → Nat
  | .lit (.string bytes) => bytes.length + 1
  | .lit _ => 1
  | .nil => 1
  | .ptr d => uptoBulk d + 1
  | .slice elems spare => uptoBulkAll elems + uptoBulkAll spare + 1
  | .agg parts => uptoBulkAll parts + 1
  | .iface _ d => uptoBulk d + 1
  | .map entries => uptoBulkEntries entries + 1
  | .held _ => 1
def uptoBulkAll {H : Type} : List (DataW H) → Nat
  | [] => 0
  | d :: r => uptoBulk d + uptoBulkAll r
def uptoBulkEntries {H : Type} : List (Lit × DataW H) → Nat
  | [] => 0
  | x :: r => uptoBulkEntry x + uptoBulkEntries r
def uptoBulkEntry {H : Type} : Lit × DataW H → Nat
  | (.string bytes, d) => bytes.length + uptoBulk d + 1
  | (_, d) => uptoBulk d + 1
 end
def uptoSmall : (H : Type) → List (DataW H) → Bool := fun _ ds => decide (uptoBulkAll ds ≤ 1048576)
def OpenSpec.upto (s : _root_.Go.ChangeSpec) : _root_.Go.OpenSpec := { _root_.Go.OpenSpec.ofChange s with cond := some uptoSmall }

/-- 'narrowslaw17.PlanFits', WHERE WHAT IT READS IS OF BULK AT MOST 1048576: true; the input reads as it did. -/
def planFitsUptoRow : OpenClaim := { program := "ytnbckkpflmpnlaa", sum := "08bc1ffb836e00a32b8dbaec99b30922eb99b11b3c47f3b0f343a227da8f7dde", func := "narrows/narrowslaw17.PlanFits", spec := "planFits", apart := false, narrowed := true }
def PlanFitsUptoSaid : Prop := planFitsUptoRow.holds Try.pinned (OpenSpec.upto planFitsSpec)

/-- 'narrowslaw17.PlanTells', WHERE WHAT IT READS IS OF BULK AT MOST 1048576: true; the input reads as it did. -/
def planTellsUptoRow : OpenClaim := { program := "ytnbckkpflmpnlaa", sum := "08bc1ffb836e00a32b8dbaec99b30922eb99b11b3c47f3b0f343a227da8f7dde", func := "narrows/narrowslaw17.PlanTells", spec := "planTells", apart := false, narrowed := true }
def PlanTellsUptoSaid : Prop := planTellsUptoRow.holds Try.pinned (OpenSpec.upto planTellsSpec)

/-- 'narrowslaw17.PlanRises', WHERE WHAT IT READS IS OF BULK AT MOST 1048576: true; the input reads as it did. -/
def planRisesUptoRow : OpenClaim := { program := "ytnbckkpflmpnlaa", sum := "08bc1ffb836e00a32b8dbaec99b30922eb99b11b3c47f3b0f343a227da8f7dde", func := "narrows/narrowslaw17.PlanRises", spec := "planRises", apart := false, narrowed := true }
def PlanRisesUptoSaid : Prop := planRisesUptoRow.holds Try.pinned (OpenSpec.upto planRisesSpec)

/-- 'narrowslaw29.TallyAll', WHERE WHAT IT READS IS OF BULK AT MOST 1048576: true; the input reads as it did. -/
def tallyAllUptoRow : OpenClaim := { program := "ytnbckkpflmpnlaa", sum := "08bc1ffb836e00a32b8dbaec99b30922eb99b11b3c47f3b0f343a227da8f7dde", func := "narrows/narrowslaw29.TallyAll", spec := "tallyAll", apart := false, narrowed := true }
def TallyAllUptoSaid : Prop := tallyAllUptoRow.holds Try.pinned (OpenSpec.upto tallyAllSpec)

/-- 'narrowslaw29.TallySums', WHERE WHAT IT READS IS OF BULK AT MOST 1048576: true; the input reads as it did. -/
def tallySumsUptoRow : OpenClaim := { program := "ytnbckkpflmpnlaa", sum := "08bc1ffb836e00a32b8dbaec99b30922eb99b11b3c47f3b0f343a227da8f7dde", func := "narrows/narrowslaw29.TallySums", spec := "tallySums", apart := false, narrowed := true }
def TallySumsUptoSaid : Prop := tallySumsUptoRow.holds Try.pinned (OpenSpec.upto tallySumsSpec)

/-- 'narrowslaw29.TallyTells', WHERE WHAT IT READS IS OF BULK AT MOST 1048576: true; the input reads as it did. -/
def tallyTellsUptoRow : OpenClaim := { program := "ytnbckkpflmpnlaa", sum := "08bc1ffb836e00a32b8dbaec99b30922eb99b11b3c47f3b0f343a227da8f7dde", func := "narrows/narrowslaw29.TallyTells", spec := "tallyTells", apart := false, narrowed := true }
def TallyTellsUptoSaid : Prop := tallyTellsUptoRow.holds Try.pinned (OpenSpec.upto tallyTellsSpec)

/-- 'narrowslaw01.WideBack', WHERE WHAT IT READS IS OF BULK AT MOST 1048576: true; the input reads as it did. -/
def wideBackUptoRow : OpenClaim := { program := "ytnbckkpflmpnlaa", sum := "08bc1ffb836e00a32b8dbaec99b30922eb99b11b3c47f3b0f343a227da8f7dde", func := "narrows/narrowslaw01.WideBack", spec := "wideBack", inPlace := ["math/bits.Sub64", "math/bits.Add64"], apart := false, narrowed := true }
def WideBackUptoSaid : Prop := wideBackUptoRow.holds Try.pinned (OpenSpec.upto wideBackSpec)

/-- 'narrowslaw01.WideSums', WHERE WHAT IT READS IS OF BULK AT MOST 1048576: true; the input reads as it did. -/
def wideSumsUptoRow : OpenClaim := { program := "ytnbckkpflmpnlaa", sum := "08bc1ffb836e00a32b8dbaec99b30922eb99b11b3c47f3b0f343a227da8f7dde", func := "narrows/narrowslaw01.WideSums", spec := "wideSums", inPlace := ["math/bits.Sub64", "math/bits.Add64"], apart := false, narrowed := true }
def WideSumsUptoSaid : Prop := wideSumsUptoRow.holds Try.pinned (OpenSpec.upto wideSumsSpec)

/-- 'narrowslaw11.PurseTotals', WHERE WHAT IT READS IS OF BULK AT MOST 1048576: true; the input reads as it did. -/
def purseTotalsUptoRow : OpenClaim := { program := "ytnbckkpflmpnlaa", sum := "08bc1ffb836e00a32b8dbaec99b30922eb99b11b3c47f3b0f343a227da8f7dde", func := "narrows/narrowslaw11.PurseTotals", spec := "purseTotals", inPlace := ["math/bits.Add64"], apart := false, narrowed := true }
def PurseTotalsUptoSaid : Prop := purseTotalsUptoRow.holds Try.pinned (OpenSpec.upto purseTotalsSpec)

/-- 'narrowslaw11.PurseTells', WHERE WHAT IT READS IS OF BULK AT MOST 1048576: true; the input reads as it did. -/
def purseTellsUptoRow : OpenClaim := { program := "ytnbckkpflmpnlaa", sum := "08bc1ffb836e00a32b8dbaec99b30922eb99b11b3c47f3b0f343a227da8f7dde", func := "narrows/narrowslaw11.PurseTells", spec := "purseTells", inPlace := ["math/bits.Add64", "math/bits.Sub64"], apart := false, narrowed := true }
def PurseTellsUptoSaid : Prop := purseTellsUptoRow.holds Try.pinned (OpenSpec.upto purseTellsSpec)

/-- 'narrowslaw40.BuilderTells', WHERE WHAT IT READS IS OF BULK AT MOST 1048576: true; the input reads as it did. -/
def builderTellsUptoRow : OpenClaim := { program := "ytnbckkpflmpnlaa", sum := "08bc1ffb836e00a32b8dbaec99b30922eb99b11b3c47f3b0f343a227da8f7dde", func := "narrows/narrowslaw40.BuilderTells", spec := "builderTells", apart := false, narrowed := true }
def BuilderTellsUptoSaid : Prop := builderTellsUptoRow.holds Try.pinned (OpenSpec.upto builderTellsSpec)

/-- 'narrowslaw11.PurseMoves', WHERE WHAT IT READS IS OF BULK AT MOST 1048576: true; the input reads as it did. -/
def purseMovesUptoRow : OpenClaim := { program := "ytnbckkpflmpnlaa", sum := "08bc1ffb836e00a32b8dbaec99b30922eb99b11b3c47f3b0f343a227da8f7dde", func := "narrows/narrowslaw11.PurseMoves", spec := "purseMoves", inPlace := ["math/bits.Add64", "math/bits.Sub64"], apart := false, narrowed := true }
def PurseMovesUptoSaid : Prop := purseMovesUptoRow.holds Try.pinned (OpenSpec.upto purseMovesSpec)

/-- 'narrowslaw01.WideTells', WHERE WHAT IT READS IS OF BULK AT MOST 1048576: true; the input reads as it did. -/
def wideTellsUptoRow : OpenClaim := { program := "ytnbckkpflmpnlaa", sum := "08bc1ffb836e00a32b8dbaec99b30922eb99b11b3c47f3b0f343a227da8f7dde", func := "narrows/narrowslaw01.WideTells", spec := "wideTells", inPlace := ["math/bits.Add64", "math/bits.Sub64"], unfollowed := true, recurses := true, apart := false, narrowed := true }
def WideTellsUptoSaid : Prop := wideTellsUptoRow.holds Try.pinned (OpenSpec.upto wideTellsSpec)

/-- 'narrowslaw01.WideDivides', WHERE WHAT IT READS IS OF BULK AT MOST 1048576: true; the input reads as it did. -/
def wideDividesUptoRow : OpenClaim := { program := "ytnbckkpflmpnlaa", sum := "08bc1ffb836e00a32b8dbaec99b30922eb99b11b3c47f3b0f343a227da8f7dde", func := "narrows/narrowslaw01.WideDivides", spec := "wideDivides", inPlace := ["math/bits.Sub64", "math/bits.Add64"], unfollowed := true, recurses := true, named := ["math/bits.divideError", "math/bits.overflowError"], apart := false, narrowed := true }
def WideDividesUptoSaid : Prop := wideDividesUptoRow.holds Try.pinned (OpenSpec.upto wideDividesSpec)

/-- 'narrowslaw18.QuoteBelow', WHERE WHAT IT READS IS OF BULK AT MOST 1048576: true; the input reads as it did. -/
def quoteBelowUptoRow : OpenClaim := { program := "ytnbckkpflmpnlaa", sum := "08bc1ffb836e00a32b8dbaec99b30922eb99b11b3c47f3b0f343a227da8f7dde", func := "narrows/narrowslaw18.QuoteBelow", spec := "quoteBelow", inPlace := ["math/bits.Add64", "math/bits.Sub64"], unfollowed := true, recurses := true, named := ["math/bits.divideError", "math/bits.overflowError"], apart := false, narrowed := true }
def QuoteBelowUptoSaid : Prop := quoteBelowUptoRow.holds Try.pinned (OpenSpec.upto quoteBelowSpec)

/-- 'narrowslaw32.TextBack', WHERE WHAT IT READS IS OF BULK AT MOST 1048576: true; the input reads as it did. -/
def textBackUptoRow : OpenClaim := { program := "ytnbckkpflmpnlaa", sum := "08bc1ffb836e00a32b8dbaec99b30922eb99b11b3c47f3b0f343a227da8f7dde", func := "narrows/narrowslaw32.TextBack", spec := "textBack", inPlace := ["math/bits.Add64"], unfollowed := true, recurses := true, named := ["math/bits.divideError", "math/bits.overflowError"], apart := false, narrowed := true }
def TextBackUptoSaid : Prop := textBackUptoRow.holds Try.pinned (OpenSpec.upto textBackSpec)

/-- 'narrowslaw32.TextReads', WHERE WHAT IT READS IS OF BULK AT MOST 1048576: true; the input reads as it did. -/
def textReadsUptoRow : OpenClaim := { program := "ytnbckkpflmpnlaa", sum := "08bc1ffb836e00a32b8dbaec99b30922eb99b11b3c47f3b0f343a227da8f7dde", func := "narrows/narrowslaw32.TextReads", spec := "textReads", inPlace := ["math/bits.Add64"], unfollowed := true, recurses := true, named := ["math/bits.divideError", "math/bits.overflowError"], apart := false, narrowed := true }
def TextReadsUptoSaid : Prop := textReadsUptoRow.holds Try.pinned (OpenSpec.upto textReadsSpec)

/-- 'narrowslaw32.TextOrder', WHERE WHAT IT READS IS OF BULK AT MOST 1048576: true; the input reads as it did. -/
def textOrderUptoRow : OpenClaim := { program := "ytnbckkpflmpnlaa", sum := "08bc1ffb836e00a32b8dbaec99b30922eb99b11b3c47f3b0f343a227da8f7dde", func := "narrows/narrowslaw32.TextOrder", spec := "textOrder", inPlace := ["math/bits.Add64"], unfollowed := true, recurses := true, named := ["math/bits.divideError", "math/bits.overflowError"], apart := false, narrowed := true }
def TextOrderUptoSaid : Prop := textOrderUptoRow.holds Try.pinned (OpenSpec.upto textOrderSpec)

/-- 'narrowslaw18.QuoteCovers', WHERE WHAT IT READS IS OF BULK AT MOST 1048576: true; the input reads as it did. -/
def quoteCoversUptoRow : OpenClaim := { program := "ytnbckkpflmpnlaa", sum := "08bc1ffb836e00a32b8dbaec99b30922eb99b11b3c47f3b0f343a227da8f7dde", func := "narrows/narrowslaw18.QuoteCovers", spec := "quoteCovers", inPlace := ["math/bits.Add64", "math/bits.Sub64"], unfollowed := true, recurses := true, named := ["math/bits.divideError", "math/bits.overflowError"], apart := false, narrowed := true }
def QuoteCoversUptoSaid : Prop := quoteCoversUptoRow.holds Try.pinned (OpenSpec.upto quoteCoversSpec)

/-- 'narrowslaw18.QuoteTells', WHERE WHAT IT READS IS OF BULK AT MOST 1048576: true; the input reads as it did. -/
def quoteTellsUptoRow : OpenClaim := { program := "ytnbckkpflmpnlaa", sum := "08bc1ffb836e00a32b8dbaec99b30922eb99b11b3c47f3b0f343a227da8f7dde", func := "narrows/narrowslaw18.QuoteTells", spec := "quoteTells", inPlace := ["math/bits.Add64", "math/bits.Sub64"], unfollowed := true, recurses := true, named := ["math/bits.divideError", "math/bits.overflowError"], apart := false, narrowed := true }
def QuoteTellsUptoSaid : Prop := quoteTellsUptoRow.holds Try.pinned (OpenSpec.upto quoteTellsSpec)

/-- 'narrowslaw32.TextLines', WHERE WHAT IT READS IS OF BULK AT MOST 1048576: true; the input reads as it did. -/
def textLinesUptoRow : OpenClaim := { program := "ytnbckkpflmpnlaa", sum := "08bc1ffb836e00a32b8dbaec99b30922eb99b11b3c47f3b0f343a227da8f7dde", func := "narrows/narrowslaw32.TextLines", spec := "textLines", inPlace := ["math/bits.Add64", "internal/abi.NoEscape", "internal/bytealg.MakeNoZero"], unfollowed := true, recurses := true, named := ["math/bits.divideError", "math/bits.overflowError"], apart := false, narrowed := true }
def TextLinesUptoSaid : Prop := textLinesUptoRow.holds Try.pinned (OpenSpec.upto textLinesSpec)

end Rows
end Go.Proofs.Ytnbckkpflmpnlaa
