/- What is cleaned is a path, and cleaned again it is that; needless signs change nothing; a path is clean. For every text and number. -/
import Derived.Test.YtfnbadfehelleaaDoorPathLaw
import Derived.Test.YtfnbadfehelleaaDoorMPathx7
namespace Go.Proofs.YtfnbadfehelleaaDoor.Pure
open Go.RowKit Go.Proofs.YtfnbadfehelleaaDoor.MPath Go.Proofs.YtfnbadfehelleaaDoorW.PrintWords Go.Proofs.YtfnbadfehelleaaDoorW.PrintLast Go.Proofs.YtfnbadfehelleaaDoorW.PrintMore Go.Proofs.YtfnbadfehelleaaDoor.PP

theorem at_in (a n : Int) (h0 : 0 < n) (h1 : n ≤ 1000) : 0 ≤ Int.tmod (wrap64 (Int.tmod a n + n)) n ∧ Int.tmod (wrap64 (Int.tmod a n + n)) n < n := by
  have b1 := Int.lt_tmod_of_pos a h0
  have b2 := Int.tmod_lt_of_pos a h0
  generalize Int.tmod a n = t at *
  rw [wrap64_small (by omega) (by omega)]
  exact ⟨Int.tmod_nonneg n (by omega), Int.tmod_lt_of_pos _ h0⟩
theorem str_bs (x : ByteArray) : x.toList = x.data.toList := ByteArray.toList_eq x
theorem PathClean : ∀ (a0 : ByteArray) (a1 : Int), a0.size ≤ 140737488351232 → (-9223372036854775808 ≤ a1 ∧ a1 ≤ 9223372036854775807) → ∃ k, aquiferlaw05_PathClean.f k a0 a1 = some true := by
  intro a0 a1 _ _
  refine ⟨30001, ?_⟩
  obtain ⟨s, hs, hs3⟩ := few_eq a0
  unfold aquiferlaw05_PathClean.f
  rw [hs, Option.bind_some, Clean_eq s _ (by omega), Option.bind_some]
  have hok := clean_ok s.data.toList
  have hbad := clean_bad s.data.toList
  rcases hcl : cleanP s.data.toList with ⟨c, e⟩
  rw [hcl] at hok hbad
  have t2 : two (c, e) = (bs c, e) := rfl
  rw [t2]
  have hw := works_eq 30000 (by omega)
  have hw1 := works_eq 30001 (by omega)
  by_cases he : e = 0
  · have hk : (kindP c).2 = 0 := hok he
    rw [if_pos (show (bs c, e).2 = 0 from he)]
    show ((path_Clean.f 30001 (bs c)).bind _) = _
    rw [Clean_eq (bs c) _ (by omega), Option.bind_some, bs_data, clean_path c hk]
    show ((path_Kind.f 30001 (bs c)).bind _) = _
    rw [Kind_eq (bs c) _ (by omega), Option.bind_some, bs_data]
    have t3 : two (c, 0) = (bs c, 0) := rfl
    rw [t3, if_pos (show (bs c, (0 : Int)).2 = 0 from rfl), if_pos (show (bs c, (0 : Int)).1.toList = (bs c, e).1.toList from rfl)]
    show aquiferlaw05_PathClean.j0 30001 a1 (bs c) _ = _
    have e : ((kindP c).2 != 0) = false := by simp [hk]
    rw [e, aquiferlaw05_PathClean.j0, if_neg (by decide)]
    have h96 := (kindP_ok c hk).1
    have hsz : (bs c).size = c.length := rfl
    rw [split_eq (bs c) _ (by rw [hsz]; omega) (by rw [hsz]; omega), Option.bind_some, bs_data, List.length_map]
    have l1 := splitL_len c
    have l2 := count_le c
    obtain ⟨N, hN⟩ : ∃ N, N = splitL c := ⟨_, rfl⟩
    rw [← hN] at l1 ⊢
    obtain ⟨b1, b2⟩ := at_in a1 (N.length : Int) (by omega) (by omega)
    obtain ⟨j, hj⟩ : ∃ j, j = Int.tmod (wrap64 (Int.tmod a1 (N.length : Int) + (N.length : Int))) (N.length : Int) := ⟨_, rfl⟩
    rw [← hj] at b1 b2 ⊢
    clear hj
    rw [if_neg (by omega), if_pos b1, if_pos (by omega)]
    have hmem : ∀ n ∈ N, n.length ≤ 96 := fun n hn => Nat.le_trans (splitL_mem_len c n (by rw [← hN]; exact hn)) h96
    have g1 := jn_len [47] 96 (N.take j.toNat) (fun n hn => hmem n (List.mem_of_mem_take hn))
    have g2 := jn_len [47, 47] 96 (N.drop j.toNat) (fun n hn => hmem n (List.mem_of_mem_drop hn))
    have g3 : (N.take j.toNat).length * (96 + ([47] : List UInt8).length) = 97 * (N.take j.toNat).length := Nat.mul_comm _ _
    have g4 : (N.drop j.toNat).length * (96 + ([47, 47] : List UInt8).length) = 98 * (N.drop j.toNat).length := Nat.mul_comm _ _
    have g5 : (N.take j.toNat).length + (N.drop j.toNat).length = N.length := by rw [← List.length_append, List.take_append_drop]
    rw [g3] at g1
    rw [g4] at g2
    have h8 : N.length ≤ 8 := by
      obtain ⟨_, ⟨h, _⟩ | ⟨_, h, _⟩⟩ := kindP_ok c hk
      · rw [hN, h]; decide
      · rw [hN]; exact h
    rw [← List.map_take, ← List.map_drop, Join_eq (N.take j.toNat) (⟨#[47]⟩ : ByteArray) (show (jn [47] (N.take j.toNat)).length ≤ 140737488355328 by omega) (by omega), Option.bind_some]
    rw [Join_eq (N.drop j.toNat) (⟨#[47, 47]⟩ : ByteArray) (show (jn [47, 47] (N.drop j.toNat)).length ≤ 140737488355328 by omega) (by omega), Option.bind_some]
    obtain ⟨X, hX⟩ : ∃ X, X = jn [47] (N.take j.toNat) := ⟨_, rfl⟩
    obtain ⟨Y, hY⟩ : ∃ Y, Y = jn [47, 47] (N.drop j.toNat) := ⟨_, rfl⟩
    rw [← hX] at g1
    rw [← hY] at g2
    have x1 : bs (jn (⟨#[47]⟩ : ByteArray).data.toList (N.take j.toNat)) = bs X := by rw [hX]
    have x2 : bs (jn (⟨#[47, 47]⟩ : ByteArray).data.toList (N.drop j.toNat)) = bs Y := by rw [hY]
    rw [x1, x2]
    have s1 : (bs X).size = X.length := rfl
    have s2 : (bs Y).size = Y.length := rfl
    have s3 : (⟨#[47, 47]⟩ : ByteArray).size = 2 := rfl
    have s4 : (⟨#[47, 46, 47, 120, 47, 46, 46, 47]⟩ : ByteArray).size = 8 := rfl
    rw [if_pos (by rw [s1]; omega), if_pos (by rw [ByteArray.size_append, s1, s3]; omega), if_pos (by rw [ByteArray.size_append, ByteArray.size_append, s1, s2, s3, s4]; omega),
      if_pos (by rw [ByteArray.size_append, ByteArray.size_append, ByteArray.size_append, s1, s2, s3, s4]; omega)]
    rw [Clean_eq _ _ (by omega), Option.bind_some]
    have hT : ((⟨#[47, 47]⟩ : ByteArray) ++ bs X ++ (⟨#[47, 46, 47, 120, 47, 46, 46, 47]⟩ : ByteArray) ++ bs Y ++ (⟨#[47]⟩ : ByteArray)).data.toList = [47, 47] ++ X ++ [47, 46, 47, 120, 47, 46, 46, 47] ++ Y ++ [47] := by
      rw [ByteArray.data_append, ByteArray.data_append, ByteArray.data_append, ByteArray.data_append, Array.toList_append, Array.toList_append, Array.toList_append, Array.toList_append]
      rfl
    rw [hT, clean_needless c hk j.toNat _ (by rw [hX, hY, hN]) (by simp only [List.length_append, List.length_cons, List.length_nil]; omega), t3]
    rw [if_pos (show (bs c, (0 : Int)).1.toList = (bs c).toList from rfl), if_pos (show (bs c, (0 : Int)).2 = 0 from rfl), hw]
    rfl
  · have hb : c = [] := hbad he
    rw [if_neg (show ¬ (bs c, e).2 = 0 from he), hb, if_pos (show (bs [], e).1.toList = [] by rw [str_bs, bs_data]), hw1]
    rfl
end Go.Proofs.YtfnbadfehelleaaDoor.Pure
