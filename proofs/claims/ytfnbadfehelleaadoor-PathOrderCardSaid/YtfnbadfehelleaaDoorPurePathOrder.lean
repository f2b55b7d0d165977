/- Of three texts, two of which stand in order, so does the third; what is below a directory stands behind it, without anything else between. For every three texts. -/
import Derived.Test.YtfnbadfehelleaaDoorPathSort
import Derived.Test.YtfnbadfehelleaaDoorMPbx
namespace Go.Proofs.YtfnbadfehelleaaDoor.Pure
open Go.RowKit Go.Proofs.YtfnbadfehelleaaDoor.MPb Go.Proofs.YtfnbadfehelleaaDoorW.PrintWords Go.Proofs.YtfnbadfehelleaaDoorW.PrintLast Go.Proofs.YtfnbadfehelleaaDoorW.PrintMore Go.Proofs.YtfnbadfehelleaaDoor.PP

theorem cmp_f (a b : ByteArray) (ha : a.size ≤ 300) (hb : b.size ≤ 300) : path_Compare.f a b = some (cmpN (splitL a.data.toList) (splitL b.data.toList)) := by
  unfold path_Compare.f Ext.path_Compare.f
  rw [if_pos ⟨by omega, by omega⟩]
theorem below_f (a b : ByteArray) : path_Below.f a b = some (decide (a.data.toList ∈ upsL b.data.toList)) := rfl
theorem splitL_inj (a b : List UInt8) (h : splitL a = splitL b) : a = b := by rw [← jn_splitL a, ← jn_splitL b, h]
theorem PathOrder : ∀ (a0 : ByteArray) (a1 : ByteArray) (a2 : ByteArray), a0.size ≤ 140737488351232 → a1.size ≤ 140737488351232 → a2.size ≤ 140737488351232 → ∃ k, aquiferlaw05_PathOrder.f k a0 a1 a2 = some true := by
  intro a0 a1 a2 _ _ _
  refine ⟨9, ?_⟩
  obtain ⟨a, ha, ha3⟩ := few_eq a0
  obtain ⟨b, hb, hb3⟩ := few_eq a1
  obtain ⟨c, hc, hc3⟩ := few_eq a2
  have fa : aquiferlaw05_few.f a0 = some a := ha
  have fb : aquiferlaw05_few.f a1 = some b := hb
  have fc : aquiferlaw05_few.f a2 = some c := hc
  have hw : aquiferlaw05_works.f = some true := rfl
  obtain ⟨A, hA⟩ : ∃ A, A = splitL a.data.toList := ⟨_, rfl⟩
  obtain ⟨B, hB⟩ : ∃ B, B = splitL b.data.toList := ⟨_, rfl⟩
  obtain ⟨C, hC⟩ : ∃ C, C = splitL c.data.toList := ⟨_, rfl⟩
  have rAB := cn_rng A B
  have rBA := cn_rng B A
  have nAB := cn_neg A B
  unfold aquiferlaw05_PathOrder.f
  rw [fa, fb, fc, Option.bind_some, Option.bind_some, Option.bind_some, cmp_f a b ha3 hb3, cmp_f b a hb3 ha3, Option.bind_some, Option.bind_some, ← hA, ← hB]
  rw [wrap64_small (by omega) (by omega), if_pos nAB, Option.bind_some]
  have e1 : ((cmpN A B == 0) != (a.toList == b.toList)) = false := by
    rw [ByteArray.toList_eq, ByteArray.toList_eq]
    by_cases h : cmpN A B = 0
    · have : a.data.toList = b.data.toList := splitL_inj _ _ (by rw [← hA, ← hB]; exact cn_eq A B h)
      rw [this]
      simp [h]
    · have : ¬ a.data.toList = b.data.toList := fun e => h (by rw [hA, hB, e]; exact cn_refl _)
      have u1 : (cmpN A B == 0) = false := beq_eq_false_iff_ne.2 h
      have u2 : (a.data.toList == b.data.toList) = false := beq_eq_false_iff_ne.2 this
      rw [u1, u2]
      rfl
  rw [e1, aquiferlaw05_PathOrder.j0, if_neg (by decide), cmp_f a b ha3 hb3, Option.bind_some, cmp_f b c hb3 hc3, Option.bind_some, cmp_f a c ha3 hc3, Option.bind_some, ← hA, ← hB, ← hC]
  have j2 : aquiferlaw05_PathOrder.j2 7 a b c false = some true := by
    rw [aquiferlaw05_PathOrder.j2, if_neg (by decide)]
    show ((some (kindP b.data.toList)).bind _) = _
    rw [Option.bind_some, below_f, below_f, cmp_f a b ha3 hb3, cmp_f b c hb3 hc3, ← hA, ← hB, ← hC, hw]
    simp only [Option.bind_some]
    by_cases h1 : a.data.toList ∈ upsL c.data.toList
    · rw [if_pos (decide_eq_true h1)]
      by_cases h2 : cmpN A B < 0
      · rw [if_pos h2]
        by_cases h3 : cmpN B C < 0
        · rw [if_pos h3]
          by_cases h4 : (kindP b.data.toList).2 = 0
          · rw [if_pos h4, if_pos (decide_eq_true (below_between _ _ _ h1 (by rw [← hA, ← hB]; exact h2) (by rw [← hB, ← hC]; exact h3) h4))]
          · rw [if_neg h4]
        · rw [if_neg h3]
      · rw [if_neg h2]
    · rw [if_neg (by simpa using h1)]
  have j1 : aquiferlaw05_PathOrder.j1 8 a b c false = some true := by
    rw [aquiferlaw05_PathOrder.j1, if_neg (by decide), below_f, Option.bind_some, cmp_f a c ha3 hc3, Option.bind_some, ← hA, ← hC]
    by_cases h1 : a.data.toList ∈ upsL c.data.toList
    · rw [if_pos (decide_eq_true h1)]
      have := below_less _ _ h1
      rw [← hA, ← hC] at this
      have e : decide (cmpN A C ≥ 0) = false := by simp; omega
      rw [e, j2]
    · rw [if_neg (by simpa using h1), j2]
  by_cases h1 : cmpN A B ≤ 0
  · rw [if_pos h1]
    by_cases h2 : cmpN B C ≤ 0
    · rw [if_pos h2]
      have := cn_le_trans A B C h1 h2
      have e : decide (cmpN A C > 0) = false := by simp; omega
      rw [e, j1]
    · rw [if_neg h2, j1]
  · rw [if_neg h1, j1]
end Go.Proofs.YtfnbadfehelleaaDoor.Pure
