/- Any key has the document's bytes, or is refused for its reason: the program's Encode and the reference's come to the same. For every list of parts. -/
import Derived.Test.YthpleebfhanahaaKeyPure
namespace Go.Proofs.Ythpleebfhanahaa.Pure
open Go.RowKit Go.Proofs.Ythpleebfhanahaa.MKey Go.Proofs.YthpleebfhanahaaW.PrintWords Go.Proofs.YthpleebfhanahaaW.PrintLast Go.Proofs.YthpleebfhanahaaW.PrintMore Go.Proofs.Ythpleebfhanahaa.KP

theorem KeycodeCodes : ∀ (l0 : List (S45)), (l0.length ≤ maxLen ∧ ∀ e0 ∈ l0, ((-9223372036854775808 ≤ e0.f0 ∧ e0.f0 ≤ 9223372036854775807) ∧ (-9223372036854775808 ≤ e0.f1 ∧ e0.f1 ≤ 9223372036854775807) ∧ e0.f2.size ≤ maxLen)) → ∃ k, aquiferlaw03_KeycodeCodes.f k l0 = some true := by
  intro l ⟨_, hl⟩
  obtain ⟨r, hr, hs, hk⟩ := few_eq l hl
  refine ⟨200, ?_⟩
  obtain ⟨h1, h2⟩ := enc_eq r hr hs 200 (by omega)
  unfold aquiferlaw03_KeycodeCodes.f
  rw [hk 200 (by omega)]
  simp only [Option.bind_some, h1, h2, if_true]
  rw [works_true 200 (by omega)]
  rfl

end Go.Proofs.Ythpleebfhanahaa.Pure
