/- Any two keys stand to one another as the document says: the program's Compare and the reference's come to the same; turned round it tells the other way; a key is like itself. For every two lists of parts. -/
import Derived.Test.YthpleebfhanahaaKeyComp
namespace Go.Proofs.Ythpleebfhanahaa.Pure
open Go.RowKit Go.Proofs.Ythpleebfhanahaa.MKey Go.Proofs.YthpleebfhanahaaW.PrintWords Go.Proofs.YthpleebfhanahaaW.PrintLast Go.Proofs.YthpleebfhanahaaW.PrintMore Go.Proofs.Ythpleebfhanahaa.KP

theorem KeycodeOrders : ∀ (l0 : List (S45)) (l1 : List (S45)), (l0.length ≤ maxLen ∧ ∀ e0 ∈ l0, ((-9223372036854775808 ≤ e0.f0 ∧ e0.f0 ≤ 9223372036854775807) ∧ (-9223372036854775808 ≤ e0.f1 ∧ e0.f1 ≤ 9223372036854775807) ∧ e0.f2.size ≤ maxLen)) → (l1.length ≤ maxLen ∧ ∀ e0 ∈ l1, ((-9223372036854775808 ≤ e0.f0 ∧ e0.f0 ≤ 9223372036854775807) ∧ (-9223372036854775808 ≤ e0.f1 ∧ e0.f1 ≤ 9223372036854775807) ∧ e0.f2.size ≤ maxLen)) → ∃ k, aquiferlaw03_KeycodeOrders.f k l0 l1 = some true := by
  intro l m ⟨_, hl⟩ ⟨_, hm⟩
  obtain ⟨r, hr, _, hk⟩ := few_eq l hl
  obtain ⟨q, hq, _, hj⟩ := few_eq m hm
  refine ⟨200, ?_⟩
  unfold aquiferlaw03_KeycodeOrders.f
  rw [hk 200 (by omega), hj 200 (by omega)]
  simp only [Option.bind_some, cmp_eq r q 200 (by omega) (by omega), ref_cmp_eq r q 200 (by omega) (by omega), cmp_eq q r 200 (by omega) (by omega), cmp_eq r r 200 (by omega) (by omega), if_true]
  have h3 := cmpS_turn r q
  have h4 := cmpS_rng r q
  have h5 : wrap64 (-cmpS r q) = -cmpS r q := wrap64_small (by omega) (by omega)
  rw [h5, if_pos h3, if_pos (cmpS_self r), works_true 200 (by omega)]
  rfl

end Go.Proofs.Ythpleebfhanahaa.Pure
