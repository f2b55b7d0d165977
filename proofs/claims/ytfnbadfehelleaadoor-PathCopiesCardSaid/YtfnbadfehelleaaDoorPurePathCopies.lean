/- Copies of a file by unlike numbers, and of unlike files by one number, have unlike paths, in the same directory; none is the file's own. For every two texts and every two numbers. -/
import Derived.Test.YtfnbadfehelleaaDoorMPcx1
import Derived.Test.YtfnbadfehelleaaDoorPathCopy
namespace Go.Proofs.YtfnbadfehelleaaDoor.Pure
open Go.RowKit Go.Proofs.YtfnbadfehelleaaDoor.MPc Go.Proofs.YtfnbadfehelleaaDoorW.PrintWords Go.Proofs.YtfnbadfehelleaaDoorW.PrintLast Go.Proofs.YtfnbadfehelleaaDoorW.PrintMore Go.Proofs.YtfnbadfehelleaaDoor.PP

theorem toList_bs2 (a b : List UInt8) : ((bs a).toList == (bs b).toList) = decide (a = b) := by
  rw [ByteArray.toList_eq, ByteArray.toList_eq, bs_data, bs_data]
  by_cases h : a = b
  · simp [h]
  · simp [h]
theorem PathCopies : ∀ (a0 : ByteArray) (a1 : ByteArray) (x2 : S33), a0.size ≤ 140737488351232 → a1.size ≤ 140737488351232 → ((-9223372036854775808 ≤ x2.f0 ∧ x2.f0 ≤ 9223372036854775807) ∧ (-9223372036854775808 ≤ x2.f1 ∧ x2.f1 ≤ 9223372036854775807)) → ∃ _ : Nat, aquiferlaw05_PathCopies.f a0 a1 x2.f0 x2.f1 = some true := by
  intro a0 a1 x2 _ _ _
  refine ⟨0, ?_⟩
  obtain ⟨x, y⟩ := x2
  obtain ⟨a, ha, ha3⟩ := few_eq a0
  obtain ⟨b, hb, hb3⟩ := few_eq a1
  have fa : aquiferlaw05_few.f a0 = some a := ha
  have fb : aquiferlaw05_few.f a1 = some b := hb
  have hw : aquiferlaw05_works.f = some true := rfl
  obtain ⟨p, rfl⟩ : ∃ p, a = bs p := ⟨_, (bs_back a).symm⟩
  obtain ⟨q, rfl⟩ : ∃ q, b = bs q := ⟨_, (bs_back b).symm⟩
  have hc : ∀ s n, path_Copy.f (bs s) n = some (two (copyP s n)) := fun _ _ => rfl
  have hp : ∀ s, path_Parent.f (bs s) = some (bs (parentP s).1, (parentP s).2) := fun _ => rfl
  have two1 : ∀ s n, (two (copyP s n)).1 = bs (copyP s n).1 := fun _ _ => rfl
  have two2 : ∀ s n, (two (copyP s n)).2 = (copyP s n).2 := fun _ _ => rfl
  unfold aquiferlaw05_PathCopies.f
  rw [fa, fb, Option.bind_some, Option.bind_some, hc, hc, hc, Option.bind_some, Option.bind_some, Option.bind_some]
  simp only [two1, two2]
  by_cases he : (copyP p x).2 = 0
  · obtain ⟨h1, h2⟩ := copy_parent p x he
    rw [if_pos he, hp, hp, Option.bind_some, Option.bind_some]
    have e1 : ¬ (bs (copyP p x).1).toList = (bs p).toList := by
      rw [ByteArray.toList_eq, ByteArray.toList_eq, bs_data, bs_data]
      exact h2
    rw [if_neg e1, h1, if_pos rfl, toList_bs2, toList_bs2, toList_bs2]
    have n1 : ∀ (P Q : Prop) [Decidable P] [Decidable Q], (P ↔ Q) → ¬ ((decide P != decide Q) = true) := by
      intro P Q _ _ h
      have e : decide P = decide Q := decide_eq_decide.2 h
      rw [e]
      cases decide Q <;> decide
    have hxy : (x == y) = decide (x = y) := rfl
    by_cases hf : (copyP p y).2 = 0
    · rw [if_pos hf, hxy, if_neg (n1 _ _ (copy_num p x y he hf))]
      by_cases hg : (copyP q x).2 = 0
      · rw [if_pos hg, if_neg (n1 _ _ (copy_file p q x he hg)), hw]; rfl
      · rw [if_neg hg, hw]; rfl
    · rw [if_neg hf]
      by_cases hg : (copyP q x).2 = 0
      · rw [if_pos hg, if_neg (n1 _ _ (copy_file p q x he hg)), hw]; rfl
      · rw [if_neg hg, hw]; rfl
  · rw [if_neg he, if_pos (by rw [copy_bad p x he, ByteArray.toList_eq]; rfl), hw]
    rfl
end Go.Proofs.YtfnbadfehelleaaDoor.Pure
