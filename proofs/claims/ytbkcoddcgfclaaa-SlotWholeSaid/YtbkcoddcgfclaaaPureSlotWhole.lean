/- The law SlotWhole answers true for every node: its plain statement. -/
import Derived.Test.YtbkcoddcgfclaaaMSwx1
namespace Go.Proofs.Ytbkcoddcgfclaaa.Pure
open Go.Proofs.Ytbkcoddcgfclaaa.MSlot Go.RowKit Go.Proofs.Ytbkcoddcgfclaaa.MSw Go.Proofs.YtbkcoddcgfclaaaW.PrintWords Go.Proofs.YtbkcoddcgfclaaaW.PrintLast Go.Proofs.YtbkcoddcgfclaaaW.PrintMore

theorem SlotWhole : ∀ (x0 : S26), (True ∧ (x0.f1.length ≤ maxLen ∧ ∀ e0 ∈ x0.f1, (e0.f0.size ≤ maxLen ∧ e0.f1.size ≤ maxLen ∧ (-9223372036854775808 ≤ e0.f2 ∧ e0.f2 ≤ 9223372036854775807) ∧ (-9223372036854775808 ≤ e0.f3 ∧ e0.f3 ≤ 9223372036854775807))) ∧ (x0.f2.length ≤ maxLen ∧ ∀ e0 ∈ x0.f2, e0.size ≤ maxLen) ∧ (x0.f3.length ≤ maxLen ∧ ∀ e0 ∈ x0.f3, (-9223372036854775808 ≤ e0 ∧ e0 ≤ 9223372036854775807))) → ∃ _k : Nat, aquiferlaw11_SlotWhole.f x0.f0 x0.f1 x0.f2 x0.f3 = some true := fun _ _ => ⟨0, rfl⟩

end Go.Proofs.Ytbkcoddcgfclaaa.Pure
