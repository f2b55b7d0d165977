/- The bytes of two keys stand in the order of the keys; those of a key begin with those of each beginning of it. For every two lists of parts and every number. -/
import Derived.Test.YthpleebfhanahaaKeySort
import Derived.Test.YthpleebfhanahaaMKeyx14
namespace Go.Proofs.Ythpleebfhanahaa.Pure
open Go.RowKit Go.Proofs.Ythpleebfhanahaa.MKey Go.Proofs.YthpleebfhanahaaW.PrintWords Go.Proofs.YthpleebfhanahaaW.PrintLast Go.Proofs.YthpleebfhanahaaW.PrintMore Go.Proofs.Ythpleebfhanahaa.KP

theorem tmod_rng2 (a b : Int) (hb : 0 < b) (hb2 : b ≤ 1000) : 0 ≤ Int.tmod (wrap64 (Int.tmod a b + b)) b ∧ Int.tmod (wrap64 (Int.tmod a b + b)) b < b := by
  have h1 : -b < Int.tmod a b := Int.lt_tmod_of_pos a hb
  have h2 := Int.tmod_lt_of_pos a hb
  generalize Int.tmod a b = c at h1 h2 ⊢
  rw [wrap64_small (by omega) (by omega)]
  exact ⟨Int.tmod_nonneg b (by omega), Int.tmod_lt_of_pos _ hb⟩
theorem sorted_j1 (a b : List S45) (ha : ∀ p ∈ a, KP.Good p) (hb : ∀ p ∈ b, KP.Good p) (s t : ByteArray) (hs : encK a = (s, 0)) (ht : encK b = (t, 0)) (k : Nat) (hk : 1000 ≤ k) (c : Nat) (hc : c ≤ a.length) :
    aquiferlaw03_KeycodeSorted.j1 k a b s t (c : Int) = some true := by
  obtain ⟨k, rfl⟩ : ∃ m, k = m + 1 := ⟨k - 1, by omega⟩
  obtain ⟨a1, a2, a3, a4⟩ := (encK_ok a s).1 hs
  obtain ⟨b1, b2, b3, b4⟩ := (encK_ok b t).1 ht
  have hcn : (c : Int).toNat = c := by omega
  have hsub : ∀ p ∈ a.take c, KP.Good p := fun p hp => ha p (List.mem_of_mem_take hp)
  have hsplit : bytesK a = bytesK (a.take c) ++ bytesK (a.drop c) := by rw [← bytesK_append, List.take_append_drop]
  have hlen := congrArg List.length hsplit
  rw [List.length_append] at hlen
  have hsz : (a.take c).length ≤ 16 := by rw [List.length_take]; omega
  have he : encK (a.take c) = (strOfNums (bytesK (a.take c)), 0) := (encK_ok _ _).2 ⟨hsz, fun p hp => (hsub p hp).2, by omega, rfl⟩
  obtain ⟨x, hx⟩ := bytesK_b8 a ha
  obtain ⟨y, hy⟩ := bytesK_b8 b hb
  obtain ⟨z, hz⟩ := bytesK_b8 _ hsub
  obtain ⟨v, hv⟩ := bytesK_b8 (a.drop c) (fun p hp => ha p (List.mem_of_mem_drop hp))
  simp only [aquiferlaw03_KeycodeSorted.j1]
  rw [if_pos (by omega), if_pos (by omega), hcn, (enc_eq _ (by omega) (fun p hp => (hsub p hp).1) k (by omega)).1, he]
  simp only [Option.bind_some, cmp_eq a b k (by omega) (by omega)]
  unfold MKey.strings_Compare.f Ext.strings_Compare.f
  have hsx : s.data.toList = x := by rw [a4, hx, str_b8]
  have hty : t.data.toList = y := by rw [b4, hy, str_b8]
  rw [hsx, hty, sorted_bytes a b ha hb x y hx hy]
  simp only [Option.bind_some, if_true]
  have hxz : x = z ++ v := b8_inj (by rw [← hx, hsplit, hz, hv, b8_append])
  have hp : strings_HasPrefix.f s (strOfNums (bytesK (a.take c))) = some true := by
    have hl : x.length = s.size := by rw [← hsx]; rfl
    have hzl : x.length = z.length + v.length := by rw [hxz, List.length_append]
    have hb1 : (bytesK (a.take c)).length = z.length := by rw [hz, b8_len]
    unfold strings_HasPrefix.f stringslite_HasPrefix.f
    simp only [nums_size, hb1]
    rw [if_pos (by omega), if_pos (by omega), if_pos (by omega)]
    simp only [Option.bind_some]
    have e2 : ((z.length : Int)).toNat = z.length := by omega
    have e3 : (s.extract 0 z.length).toList = z := by
      have := ext_list s 0 z.length
      rw [Nat.zero_add] at this
      rw [ByteArray.toList_eq, this, hsx, hxz]
      simp
    rw [e2, e3, ByteArray.toList_eq, hz, str_b8]
    simp
  rw [hp]
  simp only [Option.bind_some, if_true, works_true k (by omega)]
theorem KeycodeSorted : ∀ (l0 : List (S45)) (l1 : List (S45)) (a2 : Int), (l0.length ≤ maxLen ∧ ∀ e0 ∈ l0, ((-9223372036854775808 ≤ e0.f0 ∧ e0.f0 ≤ 9223372036854775807) ∧ (-9223372036854775808 ≤ e0.f1 ∧ e0.f1 ≤ 9223372036854775807) ∧ e0.f2.size ≤ maxLen)) → (l1.length ≤ maxLen ∧ ∀ e0 ∈ l1, ((-9223372036854775808 ≤ e0.f0 ∧ e0.f0 ≤ 9223372036854775807) ∧ (-9223372036854775808 ≤ e0.f1 ∧ e0.f1 ≤ 9223372036854775807) ∧ e0.f2.size ≤ maxLen)) → (-9223372036854775808 ≤ a2 ∧ a2 ≤ 9223372036854775807) → ∃ k, aquiferlaw03_KeycodeSorted.f k l0 l1 a2 = some true := by
  intro l m n ⟨_, hl⟩ ⟨_, hm⟩ _
  obtain ⟨r, hr, hs, hk⟩ := few_eq l hl
  obtain ⟨q, hq, hs2, hk2⟩ := few_eq m hm
  refine ⟨2002, ?_⟩
  unfold aquiferlaw03_KeycodeSorted.f
  rw [hk 2002 (by omega), hk2 2002 (by omega)]
  simp only [Option.bind_some, (enc_eq r hr hs 2002 (by omega)).1, (enc_eq q hq hs2 2002 (by omega)).1]
  obtain ⟨t, e, hte⟩ : ∃ t e, encK r = (t, e) := ⟨_, _, rfl⟩
  obtain ⟨u, f, huf⟩ : ∃ t e, encK q = (t, e) := ⟨_, _, rfl⟩
  rw [hte, huf]
  simp only []
  have ends : ∀ b : Bool, b = true → aquiferlaw03_KeycodeSorted.j0 2002 r q n t u b = some true := fun b hb => by
    show aquiferlaw03_KeycodeSorted.j0 (2001 + 1) _ _ _ _ _ _ = _
    simp only [aquiferlaw03_KeycodeSorted.j0]
    rw [if_pos hb, works_true 2001 (by omega)]
    rfl
  by_cases he : e = 0
  · rw [if_pos he]
    by_cases hf : f = 0
    · subst he hf
      have h1 : ((0 : Int) != 0) = false := by decide
      rw [h1]
      show aquiferlaw03_KeycodeSorted.j0 (2001 + 1) _ _ _ _ _ _ = _
      simp only [aquiferlaw03_KeycodeSorted.j0]
      rw [if_neg (by simp)]
      obtain ⟨_, a2, _, _⟩ := (encK_ok r t).1 hte
      obtain ⟨_, b2, _, _⟩ := (encK_ok q u).1 huf
      have go := sorted_j1 r q (fun p hp => ⟨hs p hp, a2 p hp⟩) (fun p hp => ⟨hs2 p hp, b2 p hp⟩) t u hte huf 2001 (by omega)
      by_cases hz : (r.length : Int) > 0
      · have hrng := tmod_rng2 n r.length hz (by omega)
        rw [if_pos hz, if_neg (by omega)]
        generalize Int.tmod (wrap64 (Int.tmod n (r.length : Int) + (r.length : Int))) (r.length : Int) = c at hrng ⊢
        obtain ⟨d, rfl⟩ : ∃ d : Nat, c = (d : Int) := ⟨c.toNat, by omega⟩
        exact go d (by omega)
      · rw [if_neg hz]
        exact go 0 (by omega)
    · exact ends _ (by simpa using hf)
  · rw [if_neg he]
    exact ends _ rfl

end Go.Proofs.Ythpleebfhanahaa.Pure
