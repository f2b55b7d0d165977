/- What is encoded is decoded as it was; what is decoded has just those bytes; cut off in its midst it is another key, or none. For every list of parts, string and number. -/
import Derived.Test.YthpleebfhanahaaKeyDec3
import Derived.Test.YthpleebfhanahaaMKeyx19
namespace Go.Proofs.Ythpleebfhanahaa.Pure
open Go.RowKit Go.Proofs.Ythpleebfhanahaa.MKey Go.Proofs.YthpleebfhanahaaW.PrintWords Go.Proofs.YthpleebfhanahaaW.PrintLast Go.Proofs.YthpleebfhanahaaW.PrintMore Go.Proofs.Ythpleebfhanahaa.KP

theorem encK_ends {a b : List S45} (ha : ∀ p ∈ a, KP.Good p) (hb : ∀ p ∈ b, KP.Good p) (x : List UInt8) (h : bytesK b ++ b8 x = bytesK a) : ∃ c, a = b ++ c := by
  induction b generalizing a with
  | nil => exact ⟨a, rfl⟩
  | cons q b ih =>
    cases a with
    | nil =>
      exfalso
      have := partB_pos q
      have h1 := congrArg List.length h
      rw [List.length_append] at h1
      have h2 : (bytesK (q :: b)).length = (partB q).length + (bytesK b).length := List.length_append
      have h3 : (bytesK ([] : List S45)).length = 0 := rfl
      omega
    | cons p a =>
      obtain ⟨y, hy⟩ := bytesK_b8 b (fun r hr => hb r (by simp [hr]))
      obtain ⟨z, hz⟩ := bytesK_b8 a (fun r hr => ha r (by simp [hr]))
      rw [bytesK, bytesK, List.append_assoc, hy, hz, ← b8_append] at h
      obtain ⟨h1, h2⟩ := part_ends (hb q (by simp)) (ha p (by simp)) h
      obtain ⟨c, hc⟩ := ih (a := a) (fun r hr => ha r (by simp [hr])) (fun r hr => hb r (by simp [hr])) (by rw [hy, hz, ← b8_append, h2])
      exact ⟨c, by rw [h1, hc]; rfl⟩
theorem back_j1 (s : ByteArray) (k : Nat) (hk : 1000 ≤ k) : aquiferlaw03_KeycodeBack.j1 k s = some true := by
  obtain ⟨k, rfl⟩ : ∃ m, k = m + 1 := ⟨k - 1, by omega⟩
  simp only [aquiferlaw03_KeycodeBack.j1]
  obtain ⟨m, e, h2, h3⟩ := dec_eq s k (by omega)
  rw [h2]
  simp only [Option.bind_some]
  rcases h3 with ⟨rfl, g, he⟩ | ⟨rfl, rfl, _⟩
  · have hl := ((encK_ok _ _).1 he).1
    rw [if_pos rfl, (enc_eq m (by omega) (fun p hp => (g p hp).1) k (by omega)).1, he]
    simp only [Option.bind_some, if_true, works_true k (by omega)]
  · rw [if_neg (by decide), works_true k (by omega)]
    rfl
theorem tmod_rng (a b : Int) (hb : 0 < b) (hb2 : b ≤ 1000) : 0 ≤ Int.tmod (wrap64 (Int.tmod a b + b)) b ∧ Int.tmod (wrap64 (Int.tmod a b + b)) b < b := by
  have h1 : -b < Int.tmod a b := by
    have := Int.lt_tmod_of_pos a hb
    omega
  have h2 := Int.tmod_lt_of_pos a hb
  generalize Int.tmod a b = c at h1 h2 ⊢
  rw [wrap64_small (by omega) (by omega)]
  exact ⟨Int.tmod_nonneg b (by omega), Int.tmod_lt_of_pos _ hb⟩
theorem KeycodeBack : ∀ (l0 : List (S45)) (a1 : ByteArray) (a2 : Int), (l0.length ≤ maxLen ∧ ∀ e0 ∈ l0, ((-9223372036854775808 ≤ e0.f0 ∧ e0.f0 ≤ 9223372036854775807) ∧ (-9223372036854775808 ≤ e0.f1 ∧ e0.f1 ≤ 9223372036854775807) ∧ e0.f2.size ≤ maxLen)) → a1.size ≤ 140737488351232 → (-9223372036854775808 ≤ a2 ∧ a2 ≤ 9223372036854775807) → ∃ k, aquiferlaw03_KeycodeBack.f k l0 a1 a2 = some true := by
  intro l s n ⟨_, hl⟩ _ _
  obtain ⟨r, hr, hs, hk⟩ := few_eq l hl
  refine ⟨60000, ?_⟩
  unfold aquiferlaw03_KeycodeBack.f
  obtain ⟨j, HJ, h0, h1⟩ : ∃ j : Int, Aside0 (mn (s.size : Int) 300 = j) ∧ 0 ≤ j ∧ j ≤ s.size := by
    have hm := mn_le (s.size : Int) 300
    exact ⟨_, ⟨rfl⟩, by omega, hm.1⟩
  rw [hk 60000 (by omega), HJ.out]
  simp only [Option.bind_some, (enc_eq r hr hs 60000 (by omega)).1]
  rw [if_pos h0, if_pos h1]
  obtain ⟨t, e, hte⟩ : ∃ t e, encK r = (t, e) := ⟨_, _, rfl⟩
  rw [hte]
  by_cases he : e = 0
  · subst he
    simp only [if_true]
    obtain ⟨o1, o2, o3, o4⟩ := (encK_ok r t).1 hte
    have hg : ∀ p ∈ r, KP.Good p := fun p hp => ⟨hs p hp, o2 p hp⟩
    obtain ⟨m, f, h2, h3⟩ := dec_eq t 60000 (by omega)
    rcases h3 with ⟨rfl, g, he2⟩ | ⟨_, _, hno⟩
    · have hm : m = r := encK_inj g hg he2 hte
      subst hm
      rw [h2]
      simp only [Option.bind_some, if_true, same_self m (by omega) 60000 (by omega), Bool.not_true]
      show aquiferlaw03_KeycodeBack.j0 (59999 + 1) _ _ _ _ _ = _
      simp only [aquiferlaw03_KeycodeBack.j0]
      rw [if_neg (by simp)]
      by_cases hz : (t.size : Int) > 0
      · have htz : t.size ≤ 140 := by rw [o4, nums_size]; exact o3
        have hq := tmod_rng n t.size hz (by omega)
        rw [if_pos hz, if_neg (by omega), if_pos hq.1, if_pos (by omega)]
        generalize Int.tmod (wrap64 (Int.tmod n (t.size : Int) + (t.size : Int))) (t.size : Int) = c at hq ⊢
        obtain ⟨u, e, h4, h5⟩ := dec_eq (t.extract 0 c.toNat) 59999 (by omega)
        rw [h4]
        simp only [Option.bind_some]
        by_cases he : e = 0
        · rw [if_pos he]
          have hlt : ¬ ((u.length : Int) ≥ (m.length : Int)) := by
            rcases h5 with ⟨_, gu, eu⟩ | ⟨_, h6, _⟩
            · obtain ⟨_, _, _, p4⟩ := (encK_ok u _).1 eu
              obtain ⟨x, hx⟩ := bytesK_b8 u gu
              obtain ⟨y, hy⟩ := bytesK_b8 m hg
              rw [hx, str_b8] at p4
              rw [hy, str_b8] at o4
              have hxt : x = y.take c.toNat := by
                have h6 : (t.extract 0 (0 + c.toNat)).data.toList = (t.data.toList.drop 0).take c.toNat := ext_list t 0 c.toNat
                rw [Nat.zero_add, p4, o4] at h6
                simpa using h6
              have hyl : y.length = t.size := by rw [o4]; rfl
              obtain ⟨c2, hc2⟩ := encK_ends (a := m) (b := u) hg gu (y.drop c.toNat) (by rw [hx, hy, ← b8_append, hxt, List.take_append_drop])
              have hne : c2 ≠ [] := by
                intro hnil
                rw [hnil, List.append_nil] at hc2
                rw [hc2, hx] at hy
                have h7 := b8_inj hy
                have h8 := congrArg List.length h7
                rw [hxt, List.length_take] at h8
                omega
              have : c2.length ≠ 0 := fun h => hne (List.eq_nil_of_length_eq_zero h)
              rw [hc2, List.length_append]
              omega
            · omega
          rw [if_neg hlt, back_j1 _ _ (by omega)]
        · rw [if_neg he, back_j1 _ _ (by omega)]
      · rw [if_neg hz, back_j1 _ _ (by omega)]
    · exact absurd hte (hno r hg)
  · simp only [if_neg he, back_j1 _ 60000 (by omega)]

end Go.Proofs.Ythpleebfhanahaa.Pure
