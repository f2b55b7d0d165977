/- Any two texts stand, lie and are joined to one another as the document says. For every two texts. -/
import Derived.Test.YtfnbadfehelleaaDoorMPbx5
import Derived.Test.YtfnbadfehelleaaDoorPathRef3
namespace Go.Proofs.YtfnbadfehelleaaDoor.Pure
open Go.RowKit Go.Proofs.YtfnbadfehelleaaDoor.MPb Go.Proofs.YtfnbadfehelleaaDoorW.PrintWords Go.Proofs.YtfnbadfehelleaaDoorW.PrintLast Go.Proofs.YtfnbadfehelleaaDoorW.PrintMore Go.Proofs.YtfnbadfehelleaaDoor.PP

theorem PathPairs : ∀ (a0 : ByteArray) (a1 : ByteArray), a0.size ≤ 140737488351232 → a1.size ≤ 140737488351232 → ∃ _ : Nat, aquiferlaw05_PathPairs.f a0 a1 = some true := by
  intro a0 a1 _ _
  refine ⟨0, ?_⟩
  obtain ⟨a, ha, ha3⟩ := few_eq a0
  obtain ⟨b, hb, hb3⟩ := few_eq a1
  have fa : aquiferlaw05_few.f a0 = some a := ha
  have fb : aquiferlaw05_few.f a1 = some b := hb
  have hw : aquiferlaw05_works.f = some true := rfl
  have hj : path_Join.f a b = some (two (joinP a.data.toList b.data.toList)) := if_pos ⟨ha3, hb3⟩
  have hr : aquiferref05_Join.f a b = some (two (joinP a.data.toList b.data.toList)) := if_pos ⟨ha3, hb3⟩
  have hbl : path_Below.f a b = some (decide (a.data.toList ∈ upsL b.data.toList)) := rfl
  have hbr : aquiferref05_Below.f a b = some (decide (a.data.toList ∈ upsL b.data.toList)) := rfl
  have hc : path_Compare.f a b = some (cmpN (splitL a.data.toList) (splitL b.data.toList)) := if_pos ⟨by omega, by omega⟩
  have hcr : aquiferref05_Compare.f a b = some (cmpN (splitL a.data.toList) (splitL b.data.toList)) := if_pos ⟨ha3, hb3⟩
  unfold aquiferlaw05_PathPairs.f
  rw [fa, fb, Option.bind_some, Option.bind_some, hj, hr, Option.bind_some, Option.bind_some, if_pos rfl, if_pos rfl, hbl, hbr, Option.bind_some, Option.bind_some, if_pos (beq_self_eq_true _), hc, hcr, Option.bind_some, Option.bind_some, if_pos rfl, hw]
  rfl
end Go.Proofs.YtfnbadfehelleaaDoor.Pure
