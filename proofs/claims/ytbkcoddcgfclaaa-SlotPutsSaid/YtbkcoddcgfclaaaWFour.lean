-- The printed words that this claim's texts name, cut out by this session's own tool (prune.py); checked by Lean alone.
import Derived.Test.YtbkcoddcgfclaaaWTab
/-! ### 56. Four, five, six operations that may come up next, in any order -/
namespace Go.Proofs.YtbkcoddcgfclaaaW.PrintLast
section
variable {P : Program} {ops : Array Oper} {Q : Exit → Act → World → Prop} {md : Region.Mode} {S : World → Prop} {ds : List Nat} {T : Bool × List (List Nat × List Nat)}
end
end Go.Proofs.YtbkcoddcgfclaaaW.PrintLast
