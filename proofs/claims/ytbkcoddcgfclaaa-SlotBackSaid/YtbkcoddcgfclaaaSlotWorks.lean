/- The chapter's example works: a closed run of the printed function. -/
import Derived.Test.YtbkcoddcgfclaaaMSbx3
set_option linter.unusedSimpArgs false
set_option linter.unusedVariables false
namespace Go.Proofs.Ytbkcoddcgfclaaa.SP
open Go.RowKit Go.Proofs.Ytbkcoddcgfclaaa.MSb Go.Proofs.Ytbkcoddcgfclaaa.Ext Go.Proofs.YtbkcoddcgfclaaaW.PrintWords Go.Proofs.YtbkcoddcgfclaaaW.PrintLast Go.Proofs.YtbkcoddcgfclaaaW.PrintMore

theorem works_true : aquiferlaw11_works.f 20 = some true := by decide +kernel
theorem works_call (W : World) : Calls Try.prog 14 #[] W fun e w' => e = .returned (.bool true) ∧ Below W.heap.size W w' := aquiferlaw11_works.calls 20 true W works_true rfl
end Go.Proofs.Ytbkcoddcgfclaaa.SP
