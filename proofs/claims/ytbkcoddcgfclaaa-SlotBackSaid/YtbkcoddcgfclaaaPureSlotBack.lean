/- The law SlotBack answers true for every input: its plain statement. -/
import Derived.Test.YtbkcoddcgfclaaaMSBackx1
namespace Go.Proofs.Ytbkcoddcgfclaaa.Pure
open Go.Proofs.Ytbkcoddcgfclaaa.MSlot Go.RowKit Go.Proofs.Ytbkcoddcgfclaaa.MSBack Go.Proofs.YtbkcoddcgfclaaaW.PrintWords Go.Proofs.YtbkcoddcgfclaaaW.PrintLast Go.Proofs.YtbkcoddcgfclaaaW.PrintMore

theorem SlotBack : ∀ (x0 : S26) (a1 : Int), (True ∧ (x0.f1.length ≤ 140737488351232 ∧ ∀ e0 ∈ x0.f1, (e0.f0.size ≤ 140737488351232 ∧ e0.f1.size ≤ 140737488351232 ∧ (-9223372036854775808 ≤ e0.f2 ∧ e0.f2 ≤ 9223372036854775807) ∧ (-9223372036854775808 ≤ e0.f3 ∧ e0.f3 ≤ 9223372036854775807))) ∧ (x0.f2.length ≤ 140737488351232 ∧ ∀ e0 ∈ x0.f2, e0.size ≤ 140737488351232) ∧ (x0.f3.length ≤ 140737488351232 ∧ ∀ e0 ∈ x0.f3, (-9223372036854775808 ≤ e0 ∧ e0 ≤ 9223372036854775807))) → (-9223372036854775808 ≤ a1 ∧ a1 ≤ 9223372036854775807) → ∃ _k : Nat, aquiferlaw11_SlotBack.f x0.f0 x0.f1 x0.f2 x0.f3 a1 = some true := by
  intros
  refine ⟨0, ?_⟩
  simp_all [Ext.aquiferlaw11_SlotBack.f, aquiferlaw11_SlotBack.f]

end Go.Proofs.Ytbkcoddcgfclaaa.Pure
