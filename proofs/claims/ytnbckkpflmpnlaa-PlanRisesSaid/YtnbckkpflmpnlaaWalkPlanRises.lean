/-
  The law PlanRises walked: for every delay and two times it answers true. No conditions.
-/
import Derived.Test.YtnbckkpflmpnlaaPPlanRisesx1
import Derived.Test.YtnbckkpflmpnlaaPurePlanRises
namespace Go.Proofs.Ytnbckkpflmpnlaa.WalkPlanRises
open Go.RowKit
theorem walk (a0 a1 a2 : Int) (W : World) (w0 : (Lit.int .i64 a0).wf = true) (w1 : (Lit.int .i64 a1).wf = true) (w2 : (Lit.int .i64 a2).wf = true) :
    Calls Try.prog 5 #[.int .i64 a0, .int .i64 a1, .int .i64 a2] W fun e w' => e = .returned (.bool true) ∧ Below W.heap.size W w' :=
  PPlanRises.narrowslaw17_PlanRises.walk Pure.PlanRises a0 a1 a2 W w0 w1 w2
end Go.Proofs.Ytnbckkpflmpnlaa.WalkPlanRises
