/- Any bytes are those of the document's key, or of none: the program's Decode and the reference's come to the same. For every string. -/
import Derived.Test.YthpleebfhanahaaKeyDec3
import Derived.Test.YthpleebfhanahaaMKeyx18
namespace Go.Proofs.Ythpleebfhanahaa.Pure
open Go.RowKit Go.Proofs.Ythpleebfhanahaa.MKey Go.Proofs.YthpleebfhanahaaW.PrintWords Go.Proofs.YthpleebfhanahaaW.PrintLast Go.Proofs.YthpleebfhanahaaW.PrintMore Go.Proofs.Ythpleebfhanahaa.KP

theorem KeycodeReads : ∀ (a0 : ByteArray), a0.size ≤ 140737488351232 → ∃ k, aquiferlaw03_KeycodeReads.f k a0 = some true := by
  intro s _
  refine ⟨60000, ?_⟩
  unfold aquiferlaw03_KeycodeReads.f
  obtain ⟨j, HJ, h0, h1⟩ : ∃ j : Int, Aside0 (mn (s.size : Int) 300 = j) ∧ 0 ≤ j ∧ j ≤ s.size := by
    have hm := mn_le (s.size : Int) 300
    exact ⟨_, ⟨rfl⟩, by omega, hm.1⟩
  rw [HJ.out, if_pos h0, if_pos h1]
  obtain ⟨m, e, h2, h3⟩ := dec_eq (s.extract 0 j.toNat) 60000 (by omega)
  obtain ⟨q, f, h4, h5⟩ := ref_dec_eq (s.extract 0 j.toNat) 60000 (by omega)
  rw [h2, h4]
  have hsame : m = q ∧ e = f ∧ m.length ≤ 16 := by
    rcases h3 with ⟨rfl, g1, e1⟩ | ⟨rfl, rfl, n1⟩ <;> rcases h5 with ⟨rfl, g2, e2⟩ | ⟨rfl, rfl, n2⟩
    · exact ⟨encK_inj g1 g2 e1 e2, rfl, ((encK_ok _ _).1 e1).1⟩
    · exact absurd e1 (n2 m g1)
    · exact absurd e2 (n1 q g2)
    · exact ⟨rfl, rfl, by simp⟩
  obtain ⟨rfl, rfl, hl⟩ := hsame
  simp only [Option.bind_some, same_self m (by omega) 60000 (by omega), if_true, works_true 60000 (by omega)]

end Go.Proofs.Ythpleebfhanahaa.Pure
