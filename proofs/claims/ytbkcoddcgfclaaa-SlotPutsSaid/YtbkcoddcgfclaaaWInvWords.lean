-- The printed words that this claim's texts name, cut out by this session's own tool (prune.py); checked by Lean alone.
import Derived.Test.YtbkcoddcgfclaaaWInv
import Derived.Test.YtbkcoddcgfclaaaWFootNe
namespace Go.Proofs.YtbkcoddcgfclaaaW.PrintWords
open Go.RowKit
end Go.Proofs.YtbkcoddcgfclaaaW.PrintWords
namespace Go.Proofs.YtbkcoddcgfclaaaW.PrintLast
section
variable {ops : Array Oper} {a : Act} {o og : Oper} {g : Nat} {t : Tmp} {u : Bool}
end
end Go.Proofs.YtbkcoddcgfclaaaW.PrintLast
