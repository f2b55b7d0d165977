/- What comes behind any prefix, by the program, is what the document says: the two loops run alike. For every string. -/
import Derived.Test.YthpleebfhanahaaKeyPure
import Derived.Test.YthpleebfhanahaaMKeyx9
namespace Go.Proofs.Ythpleebfhanahaa.Pure
open Go.RowKit Go.Proofs.Ythpleebfhanahaa.MKey Go.Proofs.YthpleebfhanahaaW.PrintWords Go.Proofs.YthpleebfhanahaaW.PrintLast Go.Proofs.YthpleebfhanahaaW.PrintMore Go.Proofs.Ythpleebfhanahaa.KP

theorem after_same (s : ByteArray) (hs : s.size ≤ 300) : ∀ (k : Nat) (i : Int), 0 ≤ i → i ≤ s.size → i < k →
    ∃ r, keycode_After.l0 k s i = some r ∧ aquiferref03_After.l0 k s i = some r := by
  intro k
  induction k with
  | zero => intro i h0 h1 h2; omega
  | succ k ih =>
    intro i h0 h1 h2
    simp only [keycode_After.l0, aquiferref03_After.l0]
    by_cases hi : i > 0
    · rw [if_pos hi, if_pos hi, wrap64_small (by omega) (by omega)]
      have c1 : 0 ≤ i - 1 := by omega
      have c2 : i - 1 < (s.size : Int) := by omega
      have c3 : i - 1 ≤ (s.size : Int) := by omega
      simp only [if_pos c1, if_pos c2, if_pos c3]
      have hb := bt_rng s (i - 1)
      by_cases hc : bt s (i - 1) = 255
      · rw [if_pos hc, if_neg (by omega)]
        exact ih (i - 1) (by omega) (by omega) (by omega)
      · rw [if_neg hc, if_neg (by omega), if_pos (by omega)]
        simp only [Option.bind_some]
        have hz : (s.extract 0 (i - 1).toNat).size + (strOfNums [(bt s (i - 1) + 1) % 256]).size ≤ 9223372036854775807 := by
          rw [nums_size, ByteArray.size_extract]
          show min _ _ - 0 + 1 ≤ _
          omega
        rw [if_pos hz]
        exact ⟨_, rfl, rfl⟩
    · rw [if_neg hi, if_neg hi, if_pos (by omega)]
      exact ⟨_, rfl, rfl⟩

theorem KeycodeAfters : ∀ (a0 : ByteArray), a0.size ≤ 140737488351232 → ∃ k, aquiferlaw03_KeycodeAfters.f k a0 = some true := by
  intro s hs
  refine ⟨320, ?_⟩
  unfold aquiferlaw03_KeycodeAfters.f
  obtain ⟨j, HJ, h0, h1, h2⟩ : ∃ j : Int, Aside0 (mn (s.size : Int) 300 = j) ∧ 0 ≤ j ∧ j ≤ s.size ∧ j ≤ 300 := by
    have hm := mn_le (s.size : Int) 300
    exact ⟨_, ⟨rfl⟩, by omega, hm.1, hm.2.1⟩
  rw [HJ.out, if_pos h0, if_pos h1]
  obtain ⟨t, ht⟩ : ∃ t, t = s.extract 0 j.toNat := ⟨_, rfl⟩
  rw [← ht]
  have hz : t.size ≤ 300 := by rw [ht, ByteArray.size_extract]; omega
  obtain ⟨r, e1, e2⟩ := after_same t hz 320 (t.size : Int) (by omega) (Int.le_refl _) (by omega)
  unfold keycode_After.f aquiferref03_After.f
  rw [e1, e2]
  simp only [Option.bind_some, beq_self_eq_true, if_true]
  rw [works_true 320 (by omega)]
  rfl

end Go.Proofs.Ythpleebfhanahaa.Pure
