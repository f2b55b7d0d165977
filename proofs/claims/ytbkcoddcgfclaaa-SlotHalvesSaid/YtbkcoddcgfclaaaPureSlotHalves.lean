/- The law SlotHalves answers true for every input: its plain statement. -/
import Derived.Test.YtbkcoddcgfclaaaMSHalvesx1
namespace Go.Proofs.Ytbkcoddcgfclaaa.Pure
open Go.Proofs.Ytbkcoddcgfclaaa.MSlot Go.RowKit Go.Proofs.Ytbkcoddcgfclaaa.MSHalves Go.Proofs.YtbkcoddcgfclaaaW.PrintWords Go.Proofs.YtbkcoddcgfclaaaW.PrintLast Go.Proofs.YtbkcoddcgfclaaaW.PrintMore

theorem SlotHalves : ∀ (x0 : S26) (x1 : S43), (True ∧ (x0.f1.length ≤ 140737488351232 ∧ ∀ e0 ∈ x0.f1, (e0.f0.size ≤ 140737488351232 ∧ e0.f1.size ≤ 140737488351232 ∧ (-9223372036854775808 ≤ e0.f2 ∧ e0.f2 ≤ 9223372036854775807) ∧ (-9223372036854775808 ≤ e0.f3 ∧ e0.f3 ≤ 9223372036854775807))) ∧ (x0.f2.length ≤ 140737488351232 ∧ ∀ e0 ∈ x0.f2, e0.size ≤ 140737488351232) ∧ (x0.f3.length ≤ 140737488351232 ∧ ∀ e0 ∈ x0.f3, (-9223372036854775808 ≤ e0 ∧ e0 ≤ 9223372036854775807))) → (x1.f0.size ≤ 140737488351232 ∧ x1.f1.size ≤ 140737488351232 ∧ (-9223372036854775808 ≤ x1.f2 ∧ x1.f2 ≤ 9223372036854775807) ∧ (-9223372036854775808 ≤ x1.f3 ∧ x1.f3 ≤ 9223372036854775807)) → ∃ _k : Nat, aquiferlaw11_SlotHalves.f x0.f0 x0.f1 x0.f2 x0.f3 x1.f0 x1.f1 x1.f2 x1.f3 = some true := by
  intros
  refine ⟨0, ?_⟩
  simp_all [Ext.aquiferlaw11_SlotHalves.f, aquiferlaw11_SlotHalves.f]

end Go.Proofs.Ytbkcoddcgfclaaa.Pure
